/- Merged by a program out of several texts. -/
import Derived.Test.YtppnhclgaeodoaaGreatDoorK3
import Derived.WalkKit
import Derived.BigQuiet
import Derived.Test.YtppnhclgaeodoaaGreatDoorK2
import Derived.Test.YtppnhclgaeodoaaGreatDoorProg
import Derived.Shelf.Abstract
import Derived.RangeFuncBox
import Derived.OwnWalkIn
import Derived.TacticsInMore
import Derived.LoopNIn
import Derived.LoopIn
set_option linter.all false
set_option linter.unusedSimpArgs false
set_option linter.unusedVariables false
set_option maxRecDepth 100000
open Array renaming getElem?_eq_some_iff→BY,replicate→Ov,ext'→Qk,replicate_succ→RM,replicate_zero→RN
open Bool renaming and_eq_true→N9,or_eq_true→OT,or_eq_false_iff→PN
open Go.IntKind renaming i64→IN,u64→N2
open Go.Lib renaming decDigits→Oi,itoa→ON
open Int renaming toNat_natCast→Od,pow_succ→OB,toNat_of_nonneg→OL,mul_comm→OP,le_of_lt→O8,mul_ne_zero→Pm,mul_one→Qe,add_mul→Qn,mul_lt_mul_of_pos_right→Qp,natAbs_natCast→QI,pow_pos→QP,pow_add→RK,natAbs_mul→RL,mul_ediv_cancel'→RP,natCast_pow→Sb,natAbs_dvd_natAbs→Ss,ediv_le_self→SC,pow_zero→SS,tdiv→T2
open List renaming getD_eq_getElem?_getD→sh,getElem?_eq_getElem→AI,length_pos_iff→By,length→If,mem_cons→IS,replicate→N6,eq_nil_of_length_eq_zero→N7,all_eq_true→Ob,length_take→Of,getElem?_eq_some_iff→Oh,take_of_length_le→Oj,length_append→Ol,length_drop→Om,length_cons→Oo,mem_map→Ot,getLastD_eq_getLast?→Ou,getElem?_eq_none→OA,take_length→OD,getElem_mem→OE,mem_cons_of_mem→OF,mem_range→OJ,length_nil→OO,size_toArray→OQ,cons_append→OS,getElem?_append_left→OU,drop→OX,nil_append→OY,drop_eq_getElem_cons→O0,length_map→O2,append_assoc→O4,take_append_drop→O5,map_cons→O6,range→Pa,mem_singleton→Ph,mem_of_mem_take→Pi,getElem?_map→Pp,append_nil→Pr,map_congr_left→Pw,drop_of_length_le→PB,mem_cons_self→PE,length_set→PR,getElem_range→P4,nodup_cons→P6,getElem_map→Qa,all_cons→Qg,mem_filter→Qh,set_cons_succ→Ql,getElem?_replicate→Qo,take_zero→Qt,map_nil→Qv,take_succ_eq_append_getElem→Qx,map_append→QB,set_cons_zero→QJ,of_mem_zip→QT,map_map→QW,append_toArray→Rf,getD_cons_succ→Rg,take_succ→Rq,map_id→Rs,getElem_append_right→R0,getElem?_range→R6,getElem_of_mem→R8,length_range→Sg,push_toArray→Sn,foldr_cons→SI,foldl_append→S8,nodup_range→Th,getLast?_map→T8
open List.Pairwise renaming nil→S3
open List.cons renaming injEq→P5
open Nat renaming reduceEqDiff→AS,reduceLeDiff→AT,reduceAdd→IT,reduceSub→No,reduceMul→N3,reduceBEq→N4,reduceBNe→N5,reduceLT→N8,le_refl→Oa,mul_le_mul_right→Oc,le_trans→Og,zero_add→Oz,lt_of_lt_of_le→OC,le_of_ble_eq_true→OZ,mul_le_mul_left→Po,min_eq_left→Pq,pow_le_pow_right→PA,zero_le→PM,add_mul→PS,add_assoc→QX,mul_comm→Q9,le_mul_of_pos_right→Ro,mul_le_mul→Rp,pow_succ→Rw,gcd→RG,sub_self→RT,lt_succ_self→RZ,pow_le_pow_left→SM,sub_zero→SR,pow_add→TK
open Option renaming getD_some→OV
open Option.some renaming inj→SJ
open Rat renaming divInt→Ox,num_divInt_den→Ps,mul_le_mul_of_nonneg_left→Pu,abs_of_nonneg→PC,intCast_mul→PG,abs_of_nonpos→PX,mul_eq_zero→P7,mul_le_mul_of_nonneg_right→Qb,divInt_eq_div→Qf,pow_succ→Qi,mul_nonneg→Qy,divInt_mul_divInt→Q5,mul_inv_cancel→Rz,zero_divInt→RA,divInt_mul_right→RO,div_def→Sd,pow_zero→So,divInt_add_divInt→Sr,num_natCast→SK,intCast_natCast→SN,abs_nonneg→S0,pow_nonneg→S1,abs_zero→Tp,intCast_add→Tu,intCast_neg→Tv,den_natCast→Tw,mul_one→TL,num_nonneg→TM,mul_assoc→TT,le_of_lt→T7,one_mul→Ud
section
namespace Go.Proofs
open Go.RowKit Go.Cm Go.Shelf
attribute [local go_sem] Oper.semAt_some
def zc4:List Value:=[.bool false,.slice none 0 0,.bool false,.slice none 0 0]
theorem Nc(n:Nat):madeCells (Value.agg zc4.toArray).cells (n*4)=(cG n zc4).toArray:=
 gZ (t:=NT) (by decide) (by decide) n
theorem u46{n:Nat}(h:n<=1000):N2.wrap (n:Int)=(n:Int):=by
 have h1:(n:Int)<=1000:=by omega
 unfold IntKind.wrap;have e:N2.signed=false:=rfl;rw[e];simp only[Bool.false_and,Bool.false_eq_true,if_false];exact Int.emod_eq_of_lt (by omega) (Int.lt_of_le_of_lt h1 (by decide))
set_option maxRecDepth 100000 in
set_option maxHeartbeats 1000000 in
theorem He(xs:List Value)(h4:xs.length=4)(h1:∀u∈xs,u.oneCell'=true)(n:Nat)(hn:n<=1000)(b o c:Nat)(w:World)(hc:∀j v,xs[j]? =some v->w.cell? ⟨b,o+j,none⟩=some v):
  Calls Tryz.prog 127 #[.slice (some ⟨b,o,none⟩) 1 c,.int .i64 n] w fun e w'=>e= .returned (.slice (some ⟨w.heap.size,0,none⟩) n n)/\w'.heap[w.heap.size]? =some (.cells (cG n xs).toArray 82 (0,0))/\Below w.heap.size w w':=by
 have t36:=Tryz.underlying74;have a36:=Tryz.isAgg74;have z36:=Tryz.sizeOf74;have v36:=Tryz.zeroValue74;have t3:=Tryz.underlying3;have a3:=Tryz.isAgg3;have z3:=Tryz.sizeOf3;have v3:=Tryz.zeroValue3;have t84:=Tryz.underlying210;have a84:=Tryz.isAgg210;have z84:=Tryz.sizeOf210;have v84:=Tryz.zeroValue210;have hmul:=fun w=>Tryz.bits_Mul 1 n (by omega) (by omega) w;have e1:1*n/18446744073709551616=0:=by omega
 have e2:1*n%18446744073709551616=n:=by omega
 rw[e1,e2] at hmul;have e64:∀args w,(callFunc 173 args).run Tryz.prog w= .ok (.enter 173 args) w:=enters_of Tryz.func173 (by kernel_rfl) rfl;have w1:N2.wrap (n:Int)=(n:Int):=u46 hn;have w2:IN.wrap (n:Int)=(n:Int):=wo;have c1:¬(n:Int)<0:=by omega
 have c2:¬(9223372036854775807:Int)<(n:Int):=by omega
 obtain⟨i0,hi,hz0,hz1,hz2⟩:=info_parts (show (Tryz.prog.info? 82).map (fun i=>(i.zero,i.size,i.bytes))=some (some (.agg zc4.toArray),4,64) by kernel_rfl);have hs3:(Tryz.prog.info? 82).map (·.size)=some 4:=by rw[hi];simp[hz1]
 have hmk:=run_make (P:=Tryz.prog) w 74 82 i0 (.agg zc4.toArray) t36 hi hz0 .i64 .i64 (n:Int) (n:Int) (by omega) (Int.le_refl _) (by rw[hz2];omega) (by omega);have hmc:madeCells (Value.agg zc4.toArray).cells ((n:Int).toNat*i0.size)=(cG n zc4).toArray:=by
  rw[hz1,Od];exact Nc n
 rw[hmc,Od] at hmk;have hg:(w.alloc (.cells (cG n zc4).toArray 82)).heap[w.heap.size]? =some (.cells (cG n zc4).toArray 82 (0,0)):=by rw[World.alloc_heap_new]
 have hb1:Below w.heap.size w (w.alloc (.cells (cG n zc4).toArray 82)):=(Below.refl _ _).alloc (Oa _) _;obtain⟨m0,hm0⟩:∃m0,m0=min 1 n:=⟨_,rfl⟩;have hm01:m0<=1/\m0<=n/\(m0=0->n=0):=by omega
 have hrl:(cG n zc4).length=n*4:=eM n zc4;have hml:(cG m0 xs).length=m0*4:=by rw[eM,h4]
 have hsrc:∀j u,(cG m0 xs)[j]? =some u->(w.alloc (.cells (cG n zc4).toArray 82)).cell? (Addr.add ⟨b,o,none⟩ j)=some u:=by
  intro j u hj;have hj1:=(Oh.1 hj).1;have hm1:m0=1:=by omega
  rw[hm1,show cG 1 xs=xs by simp[cG]] at hj;have hcj:=hc j u hj;obtain⟨o1,ho1,_⟩:=cells_of_cell hcj;rw[Addr.add_mid];exact(World.cell?_alloc_lt (a:=⟨b,o+j,none⟩) _ _ (BY.1 ho1).1).trans hcj
 go_enter Tryz.func127,Tryz.ntmps127
 go_wp2_with (first|(go_at_fn 173;refine(hmul _).mono ?_;rintro e w' ⟨rfl,hw'⟩;rw[hw'])|refine wE rfl (.tmp 31) (.tmp 32) 74 74 rfl 82 4 t36 hs3 (some ⟨w.heap.size,0,none⟩) (some ⟨b,o,none⟩) n n 1 c m0 rfl rfl w.heap.size 0 (cG n zc4) 82 hg (cG m0 xs) (by exact hm0) hml (fun _=>⟨rfl,_,rfl,hsrc⟩) (by rw[hml,hrl];omega) (fun u hu=>h1 u (yl hu)) w.heap.size w hb1 (Oa _) ?_;intro w4 hg4 hb4)
 go_loopw [8] (fun s wr=>∃k:Nat,s= .int .i64 k/\(k=0->n=0)/\k<=n/\wr.heap[w.heap.size]? =some (.cells (cG k xs++cG (n-k) zc4).toArray 82 (0,0))/\Below w.heap.size w wr)
  (fun s _=>n-(intOf s).toNat)
 case atStart=>exact⟨m0,by first|rfl|rw[hm0],hm01.2.2,hm01.2.1,by
  have e:splice (cG 0 xs++cG (n-0) zc4) (0*xs.length) (cG m0 xs)=_:=pN (by rw[h4];rfl) (by omega);simp only[show cG 0 xs=[] by simp[cG],OY,SR,Nat.zero_mul,Oz] at e;rw[<- e];exact hg4.out,hb4⟩
 case round=>
  obtain⟨k,rfl,hk1,hkn,hgk,hbk⟩:=hrel;by_cases hlt:k<n
  ·(have d1:(k:Int)<(n:Int):=by omega);obtain⟨m,hm⟩:∃m,m=Nat.min k (n-k):=⟨_,rfl⟩;(have hm2:m<=k/\m<=n-k/\(m=k∨m=n-k):=by rw[hm];show min k (n-k)<=k/\min k (n-k)<=n-k/\(min k (n-k)=k∨min k (n-k)=n-k);omega);(have hkl:(cG k xs).length=k*4:=by rw[eM,h4]);have hzl:(cG (n-k) zc4).length=(n-k)*4:=eM _ _;(have hmm:(cG m xs).length=m*4:=by rw[eM,h4]);have hcp:∀j u,(cG m xs)[j]? =some u->wr.cell? (Addr.add ⟨w.heap.size,0,none⟩ j)=some u:=by
    intro j u hj;have hj1:=(Oh.1 hj).1;have hpre:(cG k xs)[j]? =some u:=by
     rw[show k=m+(k-m) by omega,sk,OU hj1];exact hj
    rw[Addr.add_mid,Oz];(have hjk:j<(cG k xs).length:=by omega);simp only[World.cell?,hgk];simp[OU hjk,hpre]
   (have hfit:k*4+(cG m xs).length<=(cG k xs++cG (n-k) zc4).length:=by rw[Ol,hkl,hzl,hmm];omega);have hnk:¬n=k:=by omega
   go_wp2
   go_region_law (refine Ay rfl (.tmp 41) (.tmp 44) 74 74 rfl 82 4 t36 hs3 (some ⟨w.heap.size,k*4,none⟩) (some ⟨w.heap.size,0,none⟩) (n-k) (n-k) k n m (by simp[Act.eval,Act.put]) (by simp[Act.eval,Act.put]) w.heap.size (k*4) _ 82 hgk (cG m xs) hm hmm (fun _=>⟨rfl,_,rfl,hcp⟩) hfit (fun u hu=>h1 u (yl hu)) w.heap.size w (show Below w.heap.size w wr.drew from⟨hbk.os,hbk.tape,hbk.output,hbk.size,hbk.block⟩) (Oa _) ?_;intro w5 hg5 hb5)
   (have hw3:IN.wrap ((k:Int)+((k.min (n-k):Nat):Int))=((k+m:Nat):Int):=by rw[<- hm,wo];omega);rw[hw3];simp only[Act.put,List.setIfInBounds_toArray,Ql,QJ,List.getElem_toArray,List.getElem_cons_succ,List.getElem_cons_zero]
   go_roundw
   case rel=>
    refine⟨_,_,_,_,_,_,_,_,_,_,_,_,_,_,⟨k+m,rfl,by omega,by omega,?_,hb5⟩,rfl⟩;have e:splice (cG k xs++cG (n-k) zc4) (k*xs.length) (cG m xs)=_:=pN (by rw[h4];rfl) hm2.2.1;rw[h4] at e;rw[<- e];exact hg5.out
   case measure=>simp[intOf];omega
  ·(have hkk:k=n:=by omega);subst hkk;have d1:¬(k:Int)<(k:Int):=by omega
   go_wp2
   go_ret
   exact⟨rfl,by simpa [cG] using hgk,hbk⟩
theorem wF{w w':World}{O:Nat->Prop}{ρ0:Nat->Value}{fr:List Nat}{t:Ty}{T:TypeId}{xs:List t.D}{v:Value}{cells:List Value}(hO:∀b,O b->b<w.heap.size)(hb:Below w.heap.size w w')(hs:∃a n c,v= .slice a n c)(hr:∀H:Nat->Prop,(∀b,b<w.heap.size->H b->O b)->cC (fun c x=>t.rep H w' c x) cells xs)(hrow:Cm.rowAt (fun b=>w.heap.size<=b) w' T t.w v xs.length cells):
  ∃(vs':List Value) (ρ1:Nat->Value),Ending.returned v= .returned (pV vs')/\([]:List aB).length=([]:List aB).length/\Bel (fun b=>w.heap.size<=b∨bj ρ0 [] b) w w'/\
   (∀k,¬(ioB<=k/\k<ioB+([]:List aB).length/\fr.contains (k-ioB)=true)->ρ1 k=ρ0 k)/\
   aY (jP (cK (hot O ρ1 (af ioB [])) [RV.own t T xs] vs') w' (fun b=>w.heap.size<=b∨bj ρ0 [] b)) [RV.own t T xs] vs'/\fk [RV.own t T xs] vs'/\
   (∀p∈af ioB ([]:List aB),bW (cK (hot O ρ1 (af ioB [])) [RV.own t T xs] vs') w' ρ1 (fun b=>w.heap.size<=b∨bj ρ0 [] b) p)/\
   mX ρ1 (af ioB [])/\∀b,bj ρ1 [] b-> ¬cK (fun _=>False) [RV.own t T xs] vs' b:=by
 have hnew:∀b,Blk v b->w.heap.size<=b:=by
  intro b hbl;obtain⟨_,⟨rfl,_⟩|⟨g,cap,cur,rfl,hg,_⟩⟩:=hrow;·simp[Blk] at hbl
  ·simp[Blk] at hbl;exact hbl▸hg
 refine⟨[v],ρ0,rfl,rfl,⟨hb.os,hb.tape,hb.output,hb.size,fun k hk _=>hb.block k hk⟩,fun _ _=>rfl,⟨⟨hs,cells,hr _ ?_,?_⟩,trivial⟩,⟨fun _ b _ h=>h,trivial⟩,fun p hp=>by simp[af] at hp,S3,fun b hb=>by simp[bj,af] at hb⟩
 ·rintro b hlt (⟨_,h⟩|(h|⟨p,hp,_⟩));·have:=hnew b h;omega
  ·exact h
  ·simp[af] at hp
 ·obtain⟨h1,h2⟩:=hrow;refine⟨h1,h2.imp_right ?_⟩;rintro⟨g,cap,cur,e1,e2,e3⟩;exact⟨g,cap,cur,e1,.inl e2,e3⟩
def fE:Con:=fun l os=>match l,os with
 | [.z (.slice (.st (.pair (.st (.pair .bool (.slice (.int .u32)))) (.st (.pair .bool (.slice (.int .u32))))))) [x],.z (.int .i64) n],[]=>some (0<=n/\n<=1000,[.own tyN 82 (N6 n.toNat x)],[])
 |_,_=>none
theorem JE{n:Int}(h:0<=n/\n<=1000):∃m:Nat,n=m/\m<=1000:=⟨n.toNat,by omega,by omega⟩
theorem uQ{B:av}(hB:bc B):Valid B Tryz.prog 127 fE:=by
 intro args os C rs os' hc hC O w vals ρ0 hOn hIo hO hOI hargs hown hap;unfold fE at hc;split at hc;case h_2=>cases hc
 rename_i x n;cases hc;obtain⟨u,z,rfl,hu,hz⟩:=xH hargs;rw[bm hz];obtain⟨m,rfl,h2⟩:=JE hC;obtain⟨cells,hr,h⟩:=iu hu;have hl:=bu (fun c x h=>NT.rep_length h) hr;rcases h with⟨_,h0,_⟩|⟨ad,c,rfl,hc⟩;·simp at h0
 have h4:cells.length=4:=hl;obtain⟨c0,d0,rfl,hr0,hd0⟩:=hr;obtain rfl:d0=[]:=hd0;rw[Pr] at h4 hc;obtain⟨b,o,sp⟩:=ad;have hcell:w.cell? ⟨b,o,sp⟩=some (c0[0]'(by omega)):=by
  have:=hc 0 (c0[0]'(by omega)) (by simp);simpa [Addr.add] using this
 obtain rfl:sp=none:=by
  cases sp with
  |none=>rfl
  |some _=>simp only[World.cell?] at hcell;split at hcell<;>simp at hcell
 refine(He c0 h4 (Ty.rep_oneCell NT hr0) m h2 b o c w (fun j v hj=>by have:=hc j v hj;rwa [Addr.add_mid] at this)).mono fun e w' ⟨he,hw,hb⟩=>?_;subst he;rw[Od];refine wF hO hb ⟨_,_,_,rfl⟩ (cells:=cG m c0) (fun H hH=>eC ?_ m) ?_;·exact Ty.rep_move (t:=NT) (fun b hlt hb=> .inl (hH b hlt hb)) (fun b _ hlt=>hb.block b (cg hlt)) hr0
 ·rw[List.length_replicate];refine⟨by rw[eM,h4];rfl,.inr ⟨_,m,_,rfl,Oa _,hw,Oa _,by unfold maxLen;omega,?_,?_⟩⟩;·simp[eM,h4];exact Oa _
  ·rw[List.toList_toArray];exact Oj (by rw[eM,h4];exact Oa _)
end Go.Proofs
end
section
namespace Go.Proofs.YtppnhclgaeodoaaGreatDoor
open Go Go.Cm Go.Proofs Tryz
theorem ty2:cE prog 2 (.int .i64):=oq
theorem ty3:cE prog 3 (.int .i64):=oq
theorem ty4:cE prog 4 .bool:=I2
theorem ty5:cE prog 5 (.int .u8):=oq
theorem ty9:cE prog 9 .str:=FO
theorem sl:cE prog 23 (.int .i64):=oq
theorem wG:cE prog 26 .str:=FO
theorem pX:cE prog 27 (.slice .str):=iD (E:=26) (hw:= .inr rfl)
theorem JF:cE prog 28 (.slice (.st (.pair .str (.int .i64)))):=iD (E:=33) (hw:= .inl rfl)
theorem JG:cE prog 33 (.st (.pair .str (.int .i64))):=ui
theorem NK:cE prog 49 (.arr 2 (.int .i64)):=Le (E:=3) (hw:= .inr rfl)
theorem NL:cE prog 67 (.slice (.int .u8)):=iD (E:=5) (hw:= .inr rfl)
theorem Lx:cE prog 73 tyP:=iD (E:=82) (hw:= .inl rfl)
theorem jq:cE prog 74 tyP:=iD (E:=82) (hw:= .inl rfl)
theorem iR:cE prog 78 (.slice (.int .u32)):=iD (E:=138) (hw:= .inr rfl)
theorem fZ:cE prog 80 tyW:=ui
theorem ty82:cE prog 82 tyN:=ui
theorem KH:cE prog 120 (.slice tyP):=iD (E:=74) (hw:= .inr rfl)
theorem sn:cE prog 130 (.ptr (.st (.st (.slice tyP)))):=Ld (E:=194)
theorem KI:cE prog 134 .func:=Bt (hd:=⟨_,_,_,underlying134⟩)
theorem KJ:cE prog 136 .func:=Bt (hd:=⟨_,_,_,underlying136⟩)
theorem gb:cE prog 138 (.int .u32):=oq
theorem KK:cE prog 181 (.st (.pair tyN (.int .i64))):=ui
theorem nB:cE prog 190 (.int .u64):=oq
theorem KL:cE prog 192 (.st (.slice tyP)):=ui
theorem KM:cE prog 194 (.st (.st (.slice tyP))):=ui
end Go.Proofs.YtppnhclgaeodoaaGreatDoor
end
section
namespace Go.Proofs
open Go.RowKit Go.Cm Go.Shelf
attribute [local go_sem] Oper.semAt_some
def zN:ND:=((false,[]),(false,[]))
def oG(xs:List ND)(k:Nat):List LV:=[.z (.int .i64) ((xs.length:Int)-1-k),.z NT (xs.getD (xs.length-1-k) zN)]
def cY(xs:List ND):List (List LV):=(Pa xs.length).map (oG xs)
set_option maxRecDepth 100000 in
set_option maxHeartbeats 2000000 in
theorem Hf(F:Fence)(h7:F.fn 187)(hro:F.round=none)(l Bs oB b off len cap:Nat)(cs:Nat->List Value)(h4:∀j,j<len->(cs j).length=4)(hbig:len<=maxLen)(J:Nat->World->Prop)(Jx:World->Prop)(Kp:World->World->Prop)
  (W:World) (hBs:W.cell? ⟨Bs,oB,none⟩=some (.slice (some ⟨b,off,none⟩) len cap)) (hc:∀j,j<len->∀i,i<4->W.cell? ⟨b,off+j*4+i,none⟩=(cs j)[i]?)
  (hKp:∀A B,Kp A B->(∃o:Obj,A.heap[Bs]? =some o/\o.isCells=true)->((0<len)->∃o:Obj,A.heap[b]? =some o/\o.isCells=true)->B.heap[Bs]? =A.heap[Bs]? /\(0<len->B.heap[b]? =A.heap[b]?))
  (hY:∀k W1,J k W1->k<len->YieldAt F 0 Tryz.prog l #[.int .i64 ((len:Int)-1-k),.agg (cs (len-1-k)).toArray] W1 fun e W'=>(e= .returned (.bool true)/\J (k+1) W'/\Kp W1 W')∨(e= .returned (.bool false)/\Jx W'))
  (h0:J 0 W):
  CallsIn F 1 Tryz.prog 187 #[.func (.yield l) #[] #[],.pointer (some ⟨Bs,oB,none⟩)] W fun e W'=>(∃v,e= .returned v)/\(J len W'∨Jx W'):=by
 unfold maxLen at hbig;refine callsIn_of_wp Tryz.func187 rfl h7 ?_ hro;simp only[Tryz.ntmps187,OQ,Oo,OO,IT,No,RM,RN,Sn,Rf,OY,OS]
 gi_wp2
 gi_loopw [3] (fun i wr=>∃k:Nat,k<=len/\i= .int .i64 ((len:Int)-1-k)/\J k wr/\wr.heap[Bs]? =W.heap[Bs]? /\(0<len->wr.heap[b]? =W.heap[b]?))
  (fun i _=>(intOf i+1).toNat)
 case atStart=>exact⟨0,PM _,by simp,h0,rfl,fun _=>rfl⟩
 case round=>
  obtain⟨k,hk,rfl,hJs,hn1,hn2⟩:=hrel;have hB1:wr.cell? ⟨Bs,oB,none⟩=some (.slice (some ⟨b,off,none⟩) len cap):=(World.cell?_of_block (a:=⟨Bs,oB,none⟩) hn1).trans hBs;by_cases hlt:k<len
  ·(have hge:0<=(len:Int)-1-k:=by omega);(have htn:((len:Int)-1-k).toNat=len-1-k:=by omega);(have hup:(len:Int)-1-k<len:=by omega);have hci:∀i,i<4->wr.cell? ⟨b,off+(len-1-k)*4+i,none⟩=(cs (len-1-k))[i]? :=fun i hi=>(World.cell?_of_block (a:=⟨b,off+(len-1-k)*4+i,none⟩) (hn2 (by omega))).trans (hc _ (by omega) i hi);have hlk:=h4 (len-1-k) (by omega);obtain⟨x0,x1,x2,x3,hx⟩:∃x0 x1 x2 x3,cs (len-1-k)=[x0,x1,x2,x3]:=by
    match h:cs (len-1-k),hlk with
    | [x0,x1,x2,x3],_=>exact⟨_,_,_,_,rfl⟩
   have hc0:wr.cell? ⟨b,off+(len-1-k)*4+0,none⟩=some x0:=(hci 0 (by omega)).trans (by rw[hx];rfl);have hcx:=hc0;have hload:=cI (P:=Tryz.prog) (Go.Proofs.YtppnhclgaeodoaaGreatDoor.ty82) (w:=wr) (b:=b) (o:=off+(len-1-k)*4) (cells:=cs (len-1-k)) (by rw[hlk];rfl) (fun j hj=>hci j (by omega));have hcB:∃o:Obj,wr.heap[Bs]? =some o/\o.isCells=true:=cells_of_cell hB1;have hcb:∃o:Obj,wr.heap[b]? =some o/\o.isCells=true:=cells_of_cell hcx;have hYk:=hY k wr hJs hlt;rw[hx] at hYk hload;obtain⟨fn,tmps,assign,body,hy,hR⟩:=hYk
   gi_wp2
   refine hR.mono ?_;rintro e W3 (⟨rfl,hJ3,hk3⟩|⟨rfl,hJx3⟩)
   ·obtain⟨e1,e2⟩:=hKp _ _ hk3 hcB (fun _=>hcb)
    gi_wp2
    go_roundw
    (case rel=>exact⟨k+1,by omega,by congr 1;omega,hJ3,e1.trans hn1,fun h=>(e2 h).trans (hn2 h)⟩);case measure=>simp[intOf];omega
   ·gi_wp2
    refine bodyPost_ret (results_none rfl _ _ _) rfl ?_;exact⟨⟨_,rfl⟩,.inr hJx3⟩
  ·(have hk2:k=len:=by omega);(have hng:¬0<=(len:Int)-1-k:=by omega);rw[hk2] at hJs;clear hk2
   gi_wp2
   go_end0
   exact⟨⟨_,rfl⟩,.inl hJs⟩
set_option maxRecDepth 100000 in
set_option maxHeartbeats 2000000 in
theorem uR(F:Fence)(h7:F.fn 187)(hro:F.round=none)(l Bs oB:Nat)(J:World->Prop)(W:World)(a:Option Addr)(cap:Nat)(hBs:W.cell? ⟨Bs,oB,none⟩=some (.slice a 0 cap))(h0:J W):
  CallsIn F 1 Tryz.prog 187 #[.func (.yield l) #[] #[],.pointer (some ⟨Bs,oB,none⟩)] W fun e W'=>(∃v,e= .returned v)/\J W':=by
 refine callsIn_of_wp Tryz.func187 rfl h7 ?_ hro;simp only[Tryz.ntmps187,OQ,Oo,OO,IT,No,RM,RN,Sn,Rf,OY,OS]
 gi_wp2
 gi_loopw [3] (fun i wr=>i= .int .i64 (-1)/\wr=W) (fun i _=>(intOf i+1).toNat)
 case atStart=>exact⟨rfl,rfl⟩
 case round=>
  obtain⟨rfl,rfl⟩:=hrel
  gi_wp2
  go_end0
  exact⟨⟨_,rfl⟩,h0⟩
theorem kZ{H:Nat->Prop}{w:World}{b o:Nat}{c:Value}(h:dB H w b o [c]):w.cell? ⟨b,o,none⟩=some c/\b<w.heap.size/\ ¬H b:=
 ⟨by have:=h.2 0 (by simp);simpa using this,h.lt (by simp),h.1 (by simp)⟩
theorem EE(xs:List ND):nn Tryz.prog 187 2 [.z (.ptr (.slice NT)) xs] (cY xs):=by
 refine⟨enters_of Tryz.func187 (by kernel_rfl) rfl,?_,?_⟩;·intro it hit;obtain⟨k,_,rfl⟩:=Ot.1 hit;exact⟨rfl,rfl⟩
 ·intro H w lb hH hcap;obtain⟨v,rfl⟩:∃v,lb=[v]:=by
   match lb,hcap with
   | [v],_=>exact⟨v,rfl⟩
   |_::_::_,h=>exact h.2.elim
  obtain⟨hag,bB,oB,cells,hv,hsl,hlies⟩:=hcap.1;have hv2:v= .pointer (some ⟨bB,oB,none⟩):=by
   have hone:=ck (v:=v) (by cases v<;>first|rfl|(simp[Ty.isAgg] at hag));rw[hone] at hv;simpa using hv
  subst hv2;have hlen:(cY xs).length=xs.length:=by simp[cY]
  rcases hsl with⟨rfl,rfl⟩|⟨b,o,p,cap,cs,rfl,hp,h1,h2,h3,h4⟩;·refine⟨fun k=> #[],fun k hk=>by simp[cY] at hk,?_⟩;intro l J Jx W hb _ _ _ _ hY h0;obtain⟨c1,c2,c3⟩:=kZ hlies;exact(uR (fw none) trivial rfl l bB oB (J 0) W none 0 ((hb.cell (p:=⟨bB,oB,none⟩) c2).trans c1) h0).mono (fun e W' h=>⟨h.1,.inl h.2⟩)
  ·have hcl:cs.length=xs.length*4:=bu (fun c x h=>NT.rep_length h) h3;have hone:∀j,j<xs.length->((cs.drop (j*4)).take 4).length=4:=by
    intro j hj;rw[Of,Om,hcl];omega
   refine⟨fun k=> #[.int .i64 ((xs.length:Int)-1-k),.agg ((cs.drop ((xs.length-1-k)*4)).take 4).toArray],fun k hk=>?_,?_⟩
   ·rw[hlen] at hk;have hg:=fH (fun c x h=>NT.rep_length h) h3 (xs.length-1-k) (by omega);simp only[cY,Qa,P4];refine⟨bP (ρ:=fun _=>undef),?_,trivial⟩;have hx:xs.getD (xs.length-1-k) zN=xs[xs.length-1-k]'(by omega):=by
     rw[sh,AI (by omega)];rfl
    rw[hx];exact gz (t:=NT) hg (fun h=>by cases h) (fun h=>by cases h)
   ·(intro l J Jx W hb _ _ _ _ hY h0;rw[hlen] at hY ⊢;obtain⟨c1,c2,c3⟩:=kZ hlies;by_cases hnil:xs=[];·subst hnil;exact(uR (fw none) trivial rfl l bB oB (J 0) W (some ⟨b,o,p⟩) cap ((hb.cell (p:=⟨bB,oB,none⟩) c2).trans c1) h0).mono (fun e W' h=>⟨h.1,.inl h.2⟩));obtain rfl:=hp hnil;(have hne:0<xs.length->cs≠[]:=fun h e=>by rw[e] at hcl;simp at hcl;omega);refine Hf (fw none) trivial rfl l bB oB b o xs.length cap (fun j=>(cs.drop (j*4)).take 4) hone (Og h1 h2) J Jx (xE H w.heap.size) W ((hb.cell (p:=⟨bB,oB,none⟩) c2).trans c1) (fun j hj i hi=>?_) (fun A B hk hA1 hA2=>⟨hk bB c2 c3 hA1,fun h=>hk b (h4.lt (hne h)) (h4.1 (hne h)) (hA2 h)⟩) hY h0;(have hj':j*4+i<cs.length:=by rw[hcl];omega);rw[QX,hb.cell (p:=⟨b,o+(j*4+i),none⟩) (h4.lt (hne (by omega))),h4.2 (j*4+i) hj'];rw[List.getElem?_take,if_pos hi,List.getElem?_drop]
end Go.Proofs
end
section
namespace Go.Cm
open Go.Proofs
theorem Hg{p:List ND}{k i:Nat}(h:Sz k p)(hi:i<p.length):p.getD i zN=aG (cf (ab p) i):=by
 rw[<- gu h hi,gS (t:=NT) hi,sh,AI hi];rfl
theorem Hh{p:List ND}{k:Nat}(hk:k<p.length):p.length-1-k<p.length:=by omega
theorem Az(p:List ND)(x:Rat):0=ae (OX (p.length-0) (ab p)) x:=by
 rw[SR,PB (by rw[az];exact Oa _)];rfl
theorem AA{p:List ND}{x:Rat}{k:Nat}(hk:k<p.length):ae (OX (p.length-(k+1)) (ab p)) x=ae (OX (p.length-k) (ab p)) x*x+cf (ab p) (p.length-1-k):=by
 rw[O0 (by rw[az];omega),show p.length-(k+1)+1=p.length-k by omega];have e:(ab p)[p.length-(k+1)]'(by rw[az];omega)=cf (ab p) (p.length-1-k):=by
  unfold cf;rw[sh,show p.length-1-k=p.length-(k+1) by omega,AI (by rw[az];omega)];rfl
 rw[e];rfl
theorem EF{p:List ND}{x:ND}{k:Nat}(hC:Sz QM p/\p.length<=100/\NOK x/\lq (an x)<=QM)(hk:k<p.length){v:Rat}(hz:v=ae (OX (p.length-k) (ab p)) (an x)):dZ (aG v) x/\dZ (aG (v*an x)) (aG (cf (ab p) (p.length-1-k))):=by
 obtain⟨h1,h2,h3,h4⟩:=hC;have e:QM=400000000:=rfl;have e2:QC=100000000000:=rfl;have hl:=JA (l:=OX (p.length-k) (ab p)) (x:=an x) (K:=QM) (fun c hc=>by
  have hc':=List.mem_of_mem_drop hc;obtain⟨y,hy,rfl⟩:=Ot.1 hc';exact(h1 y hy).2) h4
 rw[<- hz,Om,az] at hl;have hm:=mv v (an x);have hc:=h1.cf (by omega) (p.length-1-k);have h5:(p.length-(p.length-k))*(2*QM+1)<=100*(2*QM+1):=Oc _ (by omega);exact⟨⟨aX _,h3,by rw[ar];omega⟩,aX _,aX _,by rw[ar,ar];omega⟩
theorem Hi(p:List ND)(x:Rat):ae (OX (p.length-(cY p).length) (ab p)) x=ae (ab p) x:=by
 rw[show (cY p).length=p.length by simp[cY],RT,List.drop_zero]
theorem ym(x:Rat)(i k:Nat):x^(i+k)=x^i*x^k:=by
 induction k with
 |zero=>rw[Nat.add_zero,So,TL]
 |succ k ih=>rw[<- QX,Qi,Qi,ih,TT]
theorem cr(x:Rat):ae [] x=0:=rfl
theorem cN(c:Rat)(l:List Rat)(x:Rat):ae (c::l) x=ae l x*x+c:=rfl
theorem dQ(c x:Rat):ae [c] x=c:=by rw[cN,cr];grind
theorem uS(l m:List Rat)(x:Rat):ae (l++m) x=ae l x+x^l.length*ae m x:=by
 induction l with
 |nil=>simp only[OY,cr,OO];grind
 |cons c l ih=>simp only[OS,cN,ih,Oo];grind
theorem Hj(n:Nat)(x:Rat):ae (N6 n 0) x=0:=by
 induction n with
 |zero=>rfl
 |succ n ih=>rw[List.replicate_succ,cN,ih];grind
theorem fg(l:List Rat)(x:Rat):ae (br l) x=ae l x:=by
 induction l with
 |nil=>rfl
 |cons c l ih=>
  rw[cN,<- ih];simp only[br];split
  ·(rename_i h;rw[h];split;·rename_i h0;rw[h0,cr];grind);·rw[dQ,cr];grind
  ·rename_i y m h;rw[h,cN]
theorem Hk(l:List Rat)(j:Nat)(y x:Rat)(h:j<l.length):ae (l.set j y) x=ae l x+(y-cf l j)*x^j:=by
 induction l generalizing j with
 |nil=>simp at h
 |cons c l ih=>
  cases j with
  |zero=>simp only[QJ,cN,cf,List.getD_cons_zero];grind
  |succ j=>
   simp only[Ql,cN];rw[ih j (by simpa using h)];(have:cf (c::l) (j+1)=cf l j:=by simp[cf]);rw[this];grind
theorem wH(l:List Rat)(k:Nat)(x:Rat)(h:k<l.length):ae (l.take (k+1)) x=ae (l.take k) x+cf l k*x^k:=by
 rw[Qx h,uS,dQ,Of,Pq (by omega)];unfold cf;rw[sh,AI h];simp only[OV];grind
theorem Hl(out:List Rat)(i:Nat)(a:Rat)(q:List Rat)(x:Rat):∀k,k<=q.length->i+k<=out.length->ae (cz out i a q k) x=ae out x+a*x^i*ae (q.take k) x
 |0,_,_=>by simp only[cz,Qt,cr];grind
 |k+1,hk,h=>by
  rw[cz,Hk _ _ _ _ (by rw[iG];omega),Hl out i a q x k (by omega) (by omega),wH q k x (by omega)];have:x^(i+k)=x^i*x^k:=ym _ _ _;rw[this];grind
theorem so(out:List Rat)(i:Nat)(a:Rat)(q:List Rat)(x:Rat)(h:i+q.length<=out.length):ae (cz out i a q q.length) x=ae out x+a*x^i*ae q x:=by
 rw[Hl _ _ _ _ _ _ (Oa _) h,OD]
theorem B3(p q:List Rat)(x:Rat)(hq:0<q.length):∀i,i<=p.length->ae (mulN p q i) x=ae (p.take i) x*ae q x
 |0,_=>by rw[mulN,Hj,Qt,cr];grind
 |i+1,h=>by
  rw[mulN,so _ _ _ _ _ (by rw[ea];omega),B3 p q x hq i (by omega),wH p i x (by omega)];grind
theorem aL(p q:List Rat)(x:Rat):ae (bx p q) x=ae p x*ae q x:=by
 unfold bx;split;·rename_i h;rcases h with h|h<;>(subst h;simp only[cr];grind)
 ·rename_i h;have hq:0<q.length:=By.2 fun e=>h (.inr e);rw[B3 p q x hq _ (Oa _),OD]
theorem j9(f:Nat->Rat)(x:Rat):∀n,ae ((Pa (n+1)).map f) x=ae ((Pa n).map f) x+f n*x^n:=by
 intro n;rw[List.range_succ,QB,uS];simp only[O6,Qv,dQ,O2,Sg];grind
theorem bE{l:List Rat}{i:Nat}(h:l.length<=i):cf l i=0:=by
 unfold cf;rw[sh,OA h];rfl
theorem k8(l:List Rat)(x:Rat):∀n,l.length<=n->ae ((Pa n).map (cf l)) x=ae l x:=by
 have h0:∀n,n<=l.length->ae ((Pa n).map (cf l)) x=ae (l.take n) x:=by
  intro n;induction n with
  |zero=>intro _;rfl
  |succ n ih=>intro h;rw[j9,ih (by omega),wH l n x (by omega)]
 intro n;induction n with
 |zero=>intro h;rw[h0 0 (by omega),show l=[] from N7 (by omega)];rfl
 |succ n ih=>
  intro h;by_cases h2:l.length<=n;·rw[j9,ih h2,bE h2];grind
  ·rw[h0 _ (by omega),Oj (by omega)]
theorem uT(l m:List Rat)(x:Rat):∀n,ae (eB (· + ·) l m n) x=ae ((Pa n).map (cf l)) x+ae ((Pa n).map (cf m)) x
 |0=>by simp only[eB,List.range_zero,Qv,cr];grind
 |n+1=>by
  have:=uT l m x n;unfold eB at this ⊢;rw[j9,j9,j9,this];grind
theorem uU(l m:List Rat)(x:Rat):∀n,ae (eB (· - ·) l m n) x=ae ((Pa n).map (cf l)) x-ae ((Pa n).map (cf m)) x
 |0=>by simp only[eB,List.range_zero,Qv,cr];grind
 |n+1=>by
  have:=uU l m x n;unfold eB at this ⊢;rw[j9,j9,j9,this];grind
theorem fT(l m:List Rat)(x:Rat):ae (ct (· + ·) l m) x=ae l x+ae m x:=by
 rw[ct,fg,uT,k8 _ _ _ (by omega),k8 _ _ _ (by omega)]
theorem fp(l m:List Rat)(x:Rat):ae (ct (· - ·) l m) x=ae l x-ae m x:=by
 rw[ct,fg,uU,k8 _ _ _ (by omega),k8 _ _ _ (by omega)]
theorem gK(l:List Rat)(x:Rat):ae (bk l) x=ae l x/ao l:=by
 have:∀(c:Rat) (l:List Rat),ae (l.map fun a=>a/c) x=ae l x/c:=by
  intro c l;induction l with
  |nil=>simp only[Qv,cr];grind
  |cons a l ih=>simp only[O6,cN,ih];grind
 exact this _ _
theorem Hm:∀{l:List Rat},l≠[]->ao l≠0->∃d X:Rat,0<d/\1<=X/\∀x,X<=x->d<=(ae l x).abs
 | [],h,_=>absurd rfl h
 | [c],_,h=>by
  refine⟨c.abs,1,?_,by grind,fun x _=>by rw[dQ];grind⟩;have:ao [c]=c:=rfl;rw[this] at h;unfold Rat.abs;split<;>grind
 |c::a::l,_,h=>by
  obtain⟨d,X,h1,h2,h3⟩:=Hm (l:=a::l) (by simp) (by simpa [ao] using h);refine⟨d,max X ((d+c.abs)/d),h1,by grind,fun x hx=>?_⟩;have h4:=h3 x (by grind);have h5:(d+c.abs)/d<=x:=by grind
  have h6:d+c.abs<=x*d:=by
   have:=Qb h5 (T7 h1);rwa [Rat.div_mul_cancel (by grind)] at this
  have h7:1<=x:=by grind
  have h8:x*d<=x*(ae (a::l) x).abs:=Pu h4 (by grind);rw[cN];generalize ae (a::l) x=v at*;have h9:(v*x).abs=x*v.abs:=by
   by_cases hv:0<=v
   ·rw[PC hv,PC (Qy hv (by grind))];grind
   ·have h11:0<= -v*x:=Qy (by grind) (by grind);rw[PX (by grind),PX (by grind)];grind
  have h10:(v*x).abs<=(v*x+c).abs+c.abs:=by
   unfold Rat.abs;split<;>split<;>split<;>grind
  grind
theorem nC{l:List Rat}(h:Trm l)(h0:∀x,ae l x=0):l=[]:=by
 by_cases hn:l=[]
 ·exact hn
 ·obtain⟨d,X,h1,h2,h3⟩:=Hm hn (h hn);have:=h3 X (by grind);rw[h0 X] at this;rw[Tp] at this;grind
theorem ka(op:Rat->Rat->Rat)(l m:List Rat)(n i:Nat)(h:i<n):cf (eB op l m n) i=op (cf l i) (cf m i):=by
 unfold eB;conv=>lhs;unfold cf
 rw[sh,Pp,R6 h];rfl
theorem nD(l:List Rat)(i:Nat):cf (br l) i=cf l i:=by
 induction l generalizing i with
 |nil=>rfl
 |cons c l ih=>
  simp only[br];split
  ·rename_i h;rw[h] at ih;(have h0:∀j,cf l j=0:=fun j=>by rw[<- ih j];simp[cf]);split
   ·rename_i hc;cases i with
    |zero=>simp[cf,hc]
    |succ i=>have:=h0 i;simp only[cf,Rg] at this ⊢;rw[this];simp
   ·cases i with
    |zero=>simp[cf]
    |succ i=>have:=h0 i;simp only[cf,Rg] at this ⊢;rw[this];simp
  ·rename_i y m h;rw[h] at ih;cases i with
   |zero=>simp[cf]
   |succ i=>have:=ih i;simp only[cf,Rg] at this ⊢;exact this
theorem Ly{l m:List Rat}(hl:Trm l)(hm:Trm m)(h:∀i,cf l i=cf m i):l=m:=by
 have hlen:∀{l m:List Rat},Trm l->(∀i,cf l i=cf m i)->l.length<=m.length:=by
  intro l m hl h;by_cases hn:l=[];·subst hn;simp
  ·have hp:=By.2 hn;have h1:=hl hn;rw[bR hp,h] at h1;have:¬m.length<=l.length-1:=fun e=>h1 (bE e);omega
 have e:l.length=m.length:=Nat.le_antisymm (hlen hl h) (hlen hm fun i=>(h i).symm);apply List.ext_getElem e;intro i h1 h2;have:=h i;unfold cf at this;rw[sh,sh,AI h1,AI h2] at this;exact this
theorem iI{l m:List Rat}(hl:Trm l)(hm:Trm m)(h:∀x,ae l x=ae m x):l=m:=by
 have h0:ct (· - ·) l m=[]:=nC (eZ _) fun x=>by rw[fp,h];grind
 refine Ly hl hm fun i=>?_;by_cases hi:i<max l.length m.length
 ·have h1:=nD (eB (· - ·) l m (max l.length m.length)) i;rw[show br (eB (· - ·) l m (max l.length m.length))=[] from h0,ka _ _ _ _ _ hi] at h1;have:cf [] i=0:=by simp[cf]
  rw[this] at h1;grind
 ·rw[bE (by omega),bE (by omega)]
theorem nE:Trm []:=fun h=>absurd rfl h
theorem fF(op:Rat->Rat->Rat)(l m:List Rat):Trm (ct op l m):=eZ _
theorem jH(op:Rat->Rat->Rat)(l m:List Rat):(ct op l m).length<=max l.length m.length:=by
 have:=jG (eB op l m (max l.length m.length));rw[jb] at this;exact this
theorem uV(p q:List Rat)(hq:0<q.length):∀i,i<=p.length->∀n,i+q.length<=n+1->cf (mulN p q i) n=0
 |0,_,n,_=>by
  rw[mulN];unfold cf;rw[sh];by_cases h:n<p.length+q.length-1;·rw[Qo,if_pos h];rfl
  ·rw[OA (by simp;omega)];rfl
 |i+1,h,n,hn=>by
  rw[mulN,jc _ _ _ _ _ _ (by rw[ea];omega),if_neg (by omega)];exact uV p q hq i (by omega) n (by omega)
theorem Hn{p q:List Rat}(hp:0<p.length)(hq:0<q.length):ao (mulN p q p.length)=ao p*ao q:=by
 obtain⟨n,hn⟩:∃n,p.length=n+1:=⟨p.length-1,by omega⟩;rw[bR (by rw[ea];omega),ea,hn,mulN,jc _ _ _ _ _ _ (by rw[ea];omega),if_pos (by omega),uV p q hq n (by omega) _ (by omega:n+q.length<=(n+1+q.length-1-1)+1)];rw[bR hp,bR hq,hn];have e1:n+1+q.length-1-1-n=q.length-1:=by omega
 have e2:n+1-1=n:=by omega
 rw[e1,e2];grind
theorem qb{p q:List Rat}(hp:p≠[])(hq:q≠[]):bx p q=mulN p q p.length:=by
 unfold bx;rw[if_neg];rintro(h|h);·exact hp h
 ·exact hq h
theorem cm{p q:List Rat}(hp:p≠[])(hq:q≠[]):(bx p q).length=p.length+q.length-1:=by
 rw[qb hp hq,ea]
theorem fq(q:List Rat):bx [] q=[]:=by unfold bx;rw[if_pos (.inl rfl)]
theorem dz(p:List Rat):bx p []=[]:=by unfold bx;rw[if_pos (.inr rfl)]
theorem oH{p q:List Rat}(hp:p≠[])(hq:q≠[]):ao (bx p q)=ao p*ao q:=by
 rw[qb hp hq,Hn (By.2 hp) (By.2 hq)]
theorem ec{p q:List Rat}(hp:Trm p)(hq:Trm q):Trm (bx p q):=by
 intro h;by_cases h1:p=[];·subst h1;exact absurd (fq q) h
 by_cases h2:q=[]
 ·subst h2;exact absurd (dz p) h
 rw[oH h1 h2];have:=hp h1;have:=hq h2;grind
theorem k9{p q:List Rat}(h:bx p q=[]):p=[]∨q=[]:=by
 by_cases h1:p=[]
 ·exact .inl h1
 by_cases h2:q=[]
 ·exact .inr h2
 have:=cm h1 h2;rw[h] at this;have:=By.2 h1;have:=By.2 h2;simp only[OO] at*;omega
theorem uW{p q:List Rat}(hp:Trm p)(hq:Trm q):bx p q=bx q p:=
 iI (ec hp hq) (ec hq hp) fun x=>by rw[aL,aL];grind
theorem yn{p q r:List Rat}(hp:Trm p)(hq:Trm q)(hr:Trm r)(h0:r≠[])(h:∀x,ae p x*ae r x=ae q x*ae r x):p=q:=by
 have h1:bx (ct (· - ·) p q) r=[]:=nC (ec (fF _ _ _) hr) fun x=>by rw[aL,fp];have:=h x;grind
 rcases k9 h1 with h2|h2;·exact iI hp hq fun x=>by have:=fp p q x;rw[h2,cr] at this;grind
 ·exact absurd h2 h0
theorem AB{q r:List Rat}(h:q.length<=r.length)(x:Rat):ae (br (cp q r)) x=ae r x-(ao r/ao q)*x^(r.length-q.length)*ae q x:=by
 rw[fg,cp,so _ _ _ _ _ (by omega)];grind
theorem yo{q:List Rat}(hq:0<q.length)(h0:ao q≠0)(x:Rat):∀(n:Nat) (r s:List Rat),r.length<n->(∀i,i+q.length<=r.length->cf s i=0)->r.length+1-q.length<=s.length->
  ae (eW q n r s).1 x*ae q x+ae (eW q n r s).2 x=ae s x*ae q x+ae r x
 |0,r,s,h,_,_=>absurd h (by omega)
 |n+1,r,s,h,hz,hs=>by
  rw[eW];split;·rename_i hl;have h1:=fo hq hl h0;rw[yo hq h0 x n _ _ (by omega) (fun i hi=>by rw[G4,if_neg (by omega)];exact hz i (by omega)) (by rw[PR];omega)];rw[AB hl,Hk _ _ _ _ (by omega),hz _ (by omega)];grind
  ·rfl
theorem qd{p q:List Rat}(hq:q≠[])(h0:Trm q)(x:Rat):ae (divN p q).1 x*ae q x+ae (divN p q).2 x=ae p x:=by
 unfold divN;rw[yo (By.2 hq) (h0 hq) x _ _ _ (RZ _) (fun i _=>?_) (by simp),Hj];·grind
 ·unfold cf;rw[sh,Qo];split<;>rfl
theorem AC{q s t r u:List Rat}(hq:q≠[])(tq:Trm q)(ts:Trm s)(tt:Trm t)(tr:Trm r)(tu:Trm u)(hr:r.length<q.length)(hu:u.length<q.length)
  (h:∀x,ae s x*ae q x+ae r x=ae t x*ae q x+ae u x):s=t/\r=u:=by
 have h1:bx (ct (· - ·) s t) q=ct (· - ·) u r:=iI (ec (fF _ _ _) tq) (fF _ _ _) fun x=>by
  rw[aL,fp,fp];have:=h x;grind
 have h2:ct (· - ·) s t=[]:=by
  by_cases hd:ct (· - ·) s t=[]
  ·exact hd
  ·have:=cm hd hq;rw[h1] at this;have h3:=jH (· - ·) u r;have h4:=By.2 hd;omega
 have h3:s=t:=iI ts tt fun x=>by have:=fp s t x;rw[h2,cr] at this;grind
 refine⟨h3,iI tr tu fun x=>?_⟩;have:=h x;rw[h3] at this;grind
theorem pO{p q s r:List Rat}(hq:q≠[])(tp:Trm p)(tq:Trm q)(ts:Trm s)(tr:Trm r)(hr:r.length<q.length)(h:∀x,ae s x*ae q x+ae r x=ae p x):
  br (divN p q).1=s/\(divN p q).2=r:=
 AC hq tq (eZ _) ts (du tp) tr (dk (By.2 hq) (tq hq)) hr fun x=>by rw[fg,qd hq tq,h]
def Den(b:Nat)(l:List Rat):Prop:=∃D:Int,D≠0/\lw D<=b/\∀i,∃n:Int,lw n<=b/\cf l i=Ox n D
theorem Den.mono{b c:Nat}{l:List Rat}(h:Den b l)(hc:b<=c):Den c l:=by
 obtain⟨D,h1,h2,h3⟩:=h;exact⟨D,h1,by omega,fun i=>by obtain⟨n,a,e⟩:=h3 i;exact⟨n,by omega,e⟩⟩
theorem Den.lq{b:Nat}{l:List Rat}(h:Den b l):∀x∈l,lq x<=b:=by
 obtain⟨D,h1,h2,h3⟩:=h;intro x hx;obtain⟨i,hi,rfl⟩:=R8 hx;obtain⟨n,a,e⟩:=h3 i;unfold cf at e;rw[sh,AI hi] at e;simp only[OV] at e;rw[e];have:=rL n D h1;omega
theorem Den.sz{b k:Nat}{l:List Rat}(h:Den b l)(hk:b<=k):Sz k (aw l):=gT fun x hx=>Og (h.lq x hx) hk
theorem EG{b:Nat}{l m:List Rat}(h:Den b l)(he:∀i,cf m i=cf l i):Den b m:=by
 obtain⟨D,h1,h2,h3⟩:=h;exact⟨D,h1,h2,fun i=>by rw[he];exact h3 i⟩
theorem sr{b:Nat}{l:List Rat}(h:Den b l):Den b (br l):=EG h fun i=>nD l i
theorem nF{b:Nat}(hb:1<=b):Den b []:=⟨1,by decide,by rw[jn];exact hb,fun i=>⟨0,by rw[lL];omega,by rw[RA];simp[cf]⟩⟩
theorem Den.pos{b:Nat}{l:List Rat}(h:Den b l):1<=b:=by
 obtain⟨D,h1,h2,_⟩:=h;have:lw D≠0:=fun e=>by have:=ny D;rw[e] at this;simp at this;omega
 omega
theorem uX{n D:Int}(hD:D≠0)(h:Ox n D≠0):n≠0:=fun e=>h (by rw[e,RA])
theorem Ho(a b:Int):lw (a-b)<=max (lw a) (lw b)+1:=by
 have:=wu a (-b);rw[Am] at this;exact this
theorem ss{b c:Nat}{q r:List Rat}(hr:Den b r)(hq:Den c q)(hl:q.length<=r.length)(h0:ao q≠0)(hp:0<q.length):Den (b+c+1) (br (cp q r)):=by
 refine sr ?_;obtain⟨D,d1,d2,d3⟩:=hr;obtain⟨E,e1,e2,e3⟩:=hq;obtain⟨R,r1,r2⟩:=d3 (r.length-1);obtain⟨Q,q1,q2⟩:=e3 (q.length-1);rw[<- bR (by omega)] at r2;rw[<- bR hp] at q2;have hQ:Q≠0:=uX e1 (by rw[<- q2];exact h0);have hDQ:D*Q≠0:=Pm d1 hQ;refine⟨D*Q,hDQ,by have:=cd D Q;omega,fun i=>?_⟩;unfold cp;rw[jc _ _ _ _ _ _ (by omega)];obtain⟨n,n1,n2⟩:=d3 i;split
 ·obtain⟨m,m1,m2⟩:=e3 (i-(r.length-q.length));refine⟨n*Q-R*m,?_,?_⟩;·have:=cd n Q;have:=cd R m;have:=Ho (n*Q) (R*m);omega
  ·rw[n2,m2,r2,q2];simp only[Qf,PG,Rat.intCast_sub];(have f1:(D:Rat)≠0:=by simpa using d1);(have f2:(E:Rat)≠0:=by simpa using e1);(have f3:(Q:Rat)≠0:=by simpa using hQ);generalize (D:Rat)=D' at*;generalize (E:Rat)=E' at*;generalize (Q:Rat)=Q' at*;grind
 ·refine⟨n*Q,by have:=cd n Q;omega,?_⟩;rw[n2,RO hQ]
theorem lN{b:Nat}{l:List Rat}(h:Den b l)(ht:Trm l):Den b (bk l):=by
 by_cases hn:l=[]
 ·subst hn;exact h
 have hp:=By.2 hn;obtain⟨D,d1,d2,d3⟩:=h;obtain⟨R,r1,r2⟩:=d3 (l.length-1);rw[<- bR hp] at r2;have hR:R≠0:=uX d1 (by rw[<- r2];exact ht hn);refine⟨R,hR,r1,fun i=>?_⟩;obtain⟨n,n1,n2⟩:=d3 i;refine⟨n,n1,?_⟩;have:cf (bk l) i=cf l i/ao l:=by
  unfold bk cf;simp only[sh,Pp];cases l[i]? with
  |none=>simp;grind
  |some x=>rfl
 rw[this,n2,r2];simp only[Qf];have f1:(D:Rat)≠0:=by simpa using d1
 have f3:(R:Rat)≠0:=by simpa using hR
 generalize (D:Rat)=D' at*;generalize (R:Rat)=R' at*;grind
theorem yp{c:Nat}{q:List Rat}(hq:Den c q)(hp:0<q.length)(h0:ao q≠0):∀(n:Nat) (r s:List Rat) (b:Nat),Den b r->Den (b+(r.length+1-q.length)*(c+1)) (eW q n r s).2
 |0,r,s,b,h=>h.mono (by omega)
 |n+1,r,s,b,h=>by
  rw[eW];split;·rename_i hl;have h1:=fo hp hl h0;refine(yp hq hp h0 n _ _ _ (ss h hq hl h0 hp)).mono ?_;(have h2:(br (cp q r)).length+1-q.length+1<=r.length+1-q.length:=by omega);have h3:=Oc (c+1) h2;rw[PS] at h3;omega
  ·exact h.mono (by omega)
theorem qf{c:Nat}{q:List Rat}(hq:Den c q)(hp:0<q.length)(h0:ao q≠0):∀(n:Nat) (r:List Rat) (b:Nat),Den b r->b+(r.length+1-q.length)*(c+1)<=QD->oF q n r
 |0,r,b,h,hb=>trivial
 |n+1,r,b,h,hb=>by
  refine⟨fun x hx=>by have:=h.lq x hx;omega,fun hl=>?_⟩;have h1:=fo hp hl h0;refine qf hq hp h0 n _ _ (ss h hq hl h0 hp) ?_;have h2:(br (cp q r)).length+1-q.length+1<=r.length+1-q.length:=by omega
  have h3:=Oc (c+1) h2;rw[PS] at h3;omega
theorem Hp{c K:Nat}{q:List Rat}(hq:Den c q)(hp:0<q.length)(h0:ao q≠0):∀(n:Nat) (r s:List Rat) (b:Nat),Den b r->(∀x∈s,lq x<=K)->b+(r.length+1-q.length)*(c+1)<=K->∀x∈(eW q n r s).1,lq x<=K
 |0,r,s,b,h,hs,hb=>hs
 |n+1,r,s,b,h,hs,hb=>by
  rw[eW];split
  ·(rename_i hl;have h1:=fo hp hl h0;(have h2:(br (cp q r)).length+1-q.length+1<=r.length+1-q.length:=by omega);have h3:=Oc (c+1) h2;rw[PS] at h3;refine Hp hq hp h0 n _ _ _ (ss h hq hl h0 hp) ?_ (by omega);intro x hx;rcases List.mem_or_eq_of_mem_set hx with hx|rfl;·exact hs x hx);·have h4:=mw (ao r) (ao q);have h5:=h.lq (ao r) (by rw[bR (by omega)];exact rW (by omega));have h6:=hq.lq (ao q) (by rw[bR hp];exact rW (by omega));omega
  ·exact hs
theorem AD{p q:List ND}{b c:Nat}(hp:∀x∈p,NOK x)(hq:∀x∈q,NOK x)(dp:Den b (ab p))(dq:Den c (ab q))(l1:p.length<=900)(l2:q.length<=900)(hn:0<q.length)(tq:Trm (ab q))
  (hb:b+(p.length+1-q.length)*(c+1)<=QD) (hc:c<=QD):eb p q:=by
 have hQ:QD<=QC:=by unfold QD QC;omega
 have hne:ab q≠[]:=fun e=>by have:=congrArg If e;rw[az,OO] at this;omega
 have hln:0<(ab q).length:=by rw[az];exact hn
 refine⟨hp,?_,l1,l2,hn,tq hne,qf dq hln (tq hne) _ _ _ dp (by rw[az,az];exact hb)⟩;have:=dq.sz hc;rwa [qa hq] at this
theorem qg{p q:List Rat}{b c K:Nat}(dp:Den b p)(dq:Den c q)(hn:q≠[])(tq:Trm q)(hb:b+(p.length+1-q.length)*(c+1)<=K)(hK:1<=K):(∀x∈(divN p q).1,lq x<=K)/\Den K (divN p q).2:=by
 unfold divN;refine⟨Hp dq (By.2 hn) (tq hn) _ _ _ _ dp (fun x hx=>?_) hb,(yp dq (By.2 hn) (tq hn) _ _ _ _ dp).mono hb⟩;rw[(List.mem_replicate.1 hx).2];exact Og ig hK
theorem su(q:List Rat):∀(n:Nat) (r s:List Rat),(eW q n r s).1.length=s.length
 |0,_,_=>rfl
 |n+1,r,s=>by
  rw[eW];split;·rw[su q n,PR]
  ·rfl
theorem jI(p q:List Rat):(divN p q).1.length=p.length+1-q.length:=by
 unfold divN;rw[su];simp
theorem oI:∀t:Nat,t+3<=3^(t+1)
 |0=>by decide
 |t+1=>by have:=oI t;rw[Rw];omega
theorem yq:∀(n:Nat) (p q:List Rat) (b:Nat),Den b p->Den b q->Trm p->Trm q->q.length<n->(b+1)*(p.length+1-q.length+1)*3^q.length<=QD->sc n p q/\Den ((b+1)*(p.length+1-q.length+1)*3^q.length) (df n p q)
 |0,p,q,b,_,_,_,_,h,_=>absurd h (by omega)
 |n+1,p,q,b,dp,dq,tp,tq,hn,hb=>by
  have hpow:0<3^q.length:=Nat.pow_pos (by decide);have hb1:(b+1)*(p.length+1-q.length+1)<=QD:=Og (Ro _ hpow) hb;have hb2:b+(p.length+1-q.length)*(b+1)+1=(b+1)*(p.length+1-q.length+1):=by
   have e:=Nat.mul_add (b+1) (p.length+1-q.length) 1;rw[Nat.mul_one,Q9 (b+1) (p.length+1-q.length)] at e;omega
  have hb3:b<=QD:=by
   have:0<=(p.length+1-q.length)*(b+1):=PM _;omega
  have hqh:QD<=QH:=by unfold QD QH;omega
  rw[sc,df];by_cases hq:q=[];·rw[if_pos hq,if_pos hq];exact⟨fun x hx=>by have:=dp.lq x hx;omega,(lN dp tp).mono (Og (by omega:b<=(b+1)*(p.length+1-q.length+1)) (Ro _ hpow))⟩
  ·rw[if_neg hq,if_neg hq];have hl:=By.2 hq;have hs:=dk (p:=p) hl (tq hq);obtain⟨k1,k2⟩:=qg (K:=b+(p.length+1-q.length)*(b+1)) dp dq hq tq (Oa _) (by have:=dp.pos;omega);have tr:=du (q:=q) tp;have hm:=lN k2 tr;have hphi:(b+(p.length+1-q.length)*(b+1)+1)*(q.length+1-(bk (divN p q).2).length+1)*3^(bk (divN p q).2).length<=(b+1)*(p.length+1-q.length+1)*3^q.length:=by
    rw[hb2,bI];rw[Nat.mul_assoc];refine Po _ ?_;obtain⟨t,ht⟩:∃t,q.length=(divN p q).2.length+(t+1):=⟨q.length-(divN p q).2.length-1,by omega⟩;rw[ht,TK,Q9];refine Po _ ?_;have:=oI t;omega
   obtain⟨g1,g2⟩:=yq n q (bk (divN p q).2) _ (dq.mono (by omega)) hm tq (dJ tr) (by rw[bI];omega) (Og hphi hb);exact⟨⟨qf dq hl (tq hq) _ _ _ dp (by omega),fun x hx=>by have:=dq.lq x hx;omega,fun x hx=>by have:=k2.lq x hx;omega,g1⟩,g2.mono hphi⟩
theorem Lz{p q:List ND}{b:Nat}(hp:∀x∈p,NOK x)(hq:∀x∈q,NOK x)(dp:Den b (ab p))(dq:Den b (ab q))(l1:p.length<=900)(l2:q.length<=900)(tp:Trm (ab p))(tq:Trm (ab q))
  (hb:(b+1)*(p.length+1-q.length+1)*3^q.length<=QD):sf p q/\Den ((b+1)*(p.length+1-q.length+1)*3^q.length) (b6 (ab p) (ab q)):=by
 obtain⟨h1,h2⟩:=yq (q.length+1) (ab p) (ab q) b dp dq tp tq (by rw[az];omega) (by rw[az,az];exact hb);refine⟨⟨hp,hq,l1,l2,tp,tq,h1⟩,?_⟩;rw[az,az] at h2;unfold b6;rw[az];exact h2
theorem den_add{b c:Nat}{l m:List Rat}(hl:Den b l)(hm:Den c m):Den (b+c+1) (ct (· + ·) l m):=by
 refine sr ?_;obtain⟨D,d1,d2,d3⟩:=hl;obtain⟨E,e1,e2,e3⟩:=hm;refine⟨D*E,Pm d1 e1,by have:=cd D E;omega,fun i=>?_⟩;by_cases hi:i<max l.length m.length;·rw[ka _ _ _ _ _ hi];obtain⟨n,n1,n2⟩:=d3 i;obtain⟨k,k1,k2⟩:=e3 i;refine⟨n*E+k*D,by have:=cd n E;have:=cd k D;have:=wu (n*E) (k*D);omega,?_⟩;rw[n2,k2,Sr _ _ d1 e1]
 ·refine⟨0,by rw[lL];omega,?_⟩;rw[bE (by rw[jb];omega),RA]
theorem JH{b c:Nat}{l m:List Rat}(hl:Den b l)(hm:Den c m):Den (b+c+1) (ct (· - ·) l m):=by
 refine sr ?_;obtain⟨D,d1,d2,d3⟩:=hl;obtain⟨E,e1,e2,e3⟩:=hm;refine⟨D*E,Pm d1 e1,by have:=cd D E;omega,fun i=>?_⟩;by_cases hi:i<max l.length m.length;·rw[ka _ _ _ _ _ hi];obtain⟨n,n1,n2⟩:=d3 i;obtain⟨k,k1,k2⟩:=e3 i;refine⟨n*E-k*D,by have:=cd n E;have:=cd k D;have:=Ho (n*E) (k*D);omega,?_⟩;rw[n2,k2,Rat.divInt_sub_divInt _ _ d1 e1]
 ·refine⟨0,by rw[lL];omega,?_⟩;rw[bE (by rw[jb];omega),RA]
theorem B4{a:Int}{b:Nat}(h:lw a<=b):(a.natAbs:Int)<=LB^b:=by
 have:=rG a h;omega
theorem yt{b c:Nat}{p q:List Rat}{D E:Int}(d1:D≠0)(e1:E≠0)(hp:∀i,∃n:Int,lw n<=b/\cf p i=Ox n D)(hq:∀i,∃n:Int,lw n<=c/\cf q i=Ox n E)(hl:0<q.length):
  ∀i,i<=p.length->∀n,∃N:Int,(N.natAbs:Int)<=i*(LB^b*LB^c)/\cf (mulN p q i) n=Ox N (D*E)
 |0,_,n=>⟨0,by simp,by
   (rw[RA];by_cases h:n<(mulN p q 0).length;·unfold mulN cf;rw[sh,Qo];split<;>rfl);·exact bE (by omega)⟩
 |i+1,h,n=>by
  obtain⟨N,h1,h2⟩:=yt d1 e1 hp hq hl i (by omega) n;rw[mulN,jc _ _ _ _ _ _ (by rw[ea];omega)];have hpos:(0:Int)<=LB^b*LB^c:=Int.mul_nonneg (O8 (lbpos _)) (O8 (lbpos _));have e:((i+1:Nat):Int)*(LB^b*LB^c)=(i:Int)*(LB^b*LB^c)+LB^b*LB^c:=by rw[Int.natCast_add,Qn];simp
  rw[e];split
  ·obtain⟨x,x1,x2⟩:=hp i;obtain⟨y,y1,y2⟩:=hq (n-i);refine⟨N+x*y,?_,?_⟩
   ·have h3:=B4 x1;have h4:=B4 y1;have h5:(x.natAbs:Int)*(y.natAbs:Int)<=LB^b*LB^c:=by
     have h6:(x.natAbs:Int)*(y.natAbs:Int)<=LB^b*(y.natAbs:Int):=Int.mul_le_mul_of_nonneg_right h3 (by omega);have h7:LB^b*(y.natAbs:Int)<=LB^b*LB^c:=Int.mul_le_mul_of_nonneg_left h4 (O8 (lbpos _));omega
    have h8:(N+x*y).natAbs<=N.natAbs+(x*y).natAbs:=Int.natAbs_add_le _ _;rw[RL] at h8;have h9:((N+x*y).natAbs:Int)<=(N.natAbs:Int)+(x.natAbs:Int)*(y.natAbs:Int):=by
     rw[<- Int.natCast_mul];omega
    omega
   ·rw[h2,x2,y2,Q5,Sr _ _ (Pm d1 e1) (Pm d1 e1),<- Qn,RO (Pm d1 e1)]
  ·exact⟨N,by omega,h2⟩
theorem den_mul{b c:Nat}{p q:List Rat}(hp:Den b p)(hq:Den c q)(hl:p.length<1000000000):Den (b+c+1) (bx p q):=by
 have hb:=hp.pos;by_cases h1:p=[];·subst h1;rw[fq];exact nF (by omega)
 by_cases h2:q=[]
 ·subst h2;rw[dz];exact nF (by omega)
 rw[qb h1 h2];obtain⟨D,d1,d2,d3⟩:=hp;obtain⟨E,e1,e2,e3⟩:=hq;refine⟨D*E,Pm d1 e1,by have:=cd D E;omega,fun n=>?_⟩;obtain⟨N,k1,k2⟩:=yt d1 e1 d3 e3 (By.2 h2) _ (Oa _) n;refine⟨N,kU ?_,k2⟩;have k3:(0:Int)<LB^b*LB^c:=Int.mul_pos (lbpos _) (lbpos _);have k4:(p.length:Int)*(LB^b*LB^c)<LB*(LB^b*LB^c):=Qp (by show (p.length:Int)<1000000000;omega) k3;have k5:(LB:Int)^(b+c+1)=LB*(LB^b*LB^c):=by rw[OB,RK,OP]
 omega
theorem JI{b:Nat}{l:List Rat}(h:Den b l):(l.length<1000000000)->Den (b+1) (a7 l):=by
 intro hl;obtain⟨D,d1,d2,d3⟩:=h;refine⟨D,d1,by omega,fun i=>?_⟩;by_cases hi:i<l.length-1
 ·obtain⟨n,n1,n2⟩:=d3 (i+1);have:cf (a7 l) i=cf l (i+1)*Ox ((i+1:Nat):Int) 1:=by
   (unfold a7 kY;conv=>lhs;unfold cf);rw[sh,Pp,R6 hi];rfl
  refine⟨n*((i+1:Nat):Int),?_,?_⟩;·have h1:lw (((i+1:Nat):Int))<=1:=kU (by show _<(1000000000:Int)^1;omega);have:=cd n ((i+1:Nat):Int);omega
  ·rw[this,n2,Q5,Qe]
 ·refine⟨0,by rw[lL];omega,?_⟩;rw[RA,bE];unfold a7 kY;simp;omega
end Go.Cm
end
section
namespace Go.Cm
open Go.Proofs
def dx(p:List (List UInt8)):Int:=
 if 41<p.length then 40 else if p.all (fun q=>decide (cM q=0))=false then 40
 else if p≠[]/\p.getLastD []=[48] then 40 else 0
def dt(p:List (List UInt8)):List Rat:=if dx p=0 then p.map cu else []
def cQ(p:List (List UInt8)):Prop:=p.length<=QL/\∀q∈p,q.length<=QL
theorem uY{q:List UInt8}(h:cM q=0)(hl:q.length<=QL):ga q/\fY q=aG (cu q):=by
 have:RQ q:=⟨by rw[h];decide,hl⟩;exact⟨this.form,this.raw⟩
theorem sv{p:List (List UInt8)}{k:Nat}(hk:k<p.length)(h:(p.take k).all (fun q=>decide (cM q=0))=true)(hb:cM (nth .str p (k:Int))=0):(p.take (k+1)).all (fun q=>decide (cM q=0))=true:=by
 have e:nth .str p (k:Int)=p[k]:=gS (t:= .str) hk;rw[Qx hk,List.all_append,h];rw[e] at hb;simp[hb]
theorem EH{p:List (List UInt8)}{k:Nat}(hk:k<p.length)(h41:p.length<=41)(hb:¬cM (nth .str p (k:Int))=0):dx p=40:=by
 have e:nth .str p (k:Int)=p[k]:=gS (t:= .str) hk;rw[e] at hb;unfold dx;rw[if_neg (by omega),if_pos];rw[List.all_eq_false];exact⟨p[k],OE hk,by simpa using hb⟩
theorem gv{p:List (List UInt8)}(hs:cQ p)(h:p.all (fun q=>decide (cM q=0))=true):(∀q∈p,ga q)/\p.map fY=aw (p.map cu):=by
 rw[Ob] at h;refine⟨fun q hq=>(uY (by simpa using h q hq) (hs.2 q hq)).1,?_⟩;unfold aw;rw[QW];exact Pw fun q hq=>(uY (by simpa using h q hq) (hs.2 q hq)).2
theorem AE{p:List (List UInt8)}(hl:p.length<=41):(decide ((0:Int)<(p.length:Int))=true->decide ((0:Int)<(p.length:Int))=true)/\(decide ((0:Int)<(p.length:Int))=true->decide ((0:Int)<(p.length:Int))=true)/\(decide ((0:Int)<(p.length:Int))=true->decide ((0:Int)<(p.length:Int))=true/\0<=IN.wrap ((p.length:Int)-1)/\IN.wrap ((p.length:Int)-1)<(p.length:Int))/\(decide ((0:Int)<(p.length:Int))=true->decide ((0:Int)<(p.length:Int))=true):=by
 refine⟨id,id,fun h=>?_,id⟩;have h2:=of_decide_eq_true h;rw[dj (by omega)];exact⟨h,by omega,by omega⟩
theorem sw{p:List (List UInt8)}(h:dx p=40): []=aw (dt p)/\40=dx p:=by
 refine⟨?_,h.symm⟩;unfold dt;rw[if_neg (by rw[h];decide)];rfl
theorem AF{p:List (List UInt8)}(h:41<p.length):dx p=40:=by unfold dx;rw[if_pos h]
theorem pP{p:List (List UInt8)}(hl:p.length<=41)(h:0<p.length):nth .str p (IN.wrap ((p.length:Int)-1))=p.getLastD []:=by
 rw[dj (by omega),show (p.length:Int)-1=((p.length-1:Nat):Int) by omega,gS (t:= .str) (by omega)];rw[Ou,List.getLast?_eq_getElem?,AI (by omega)];rfl
theorem AG{p:List (List UInt8)}(hl:p.length<=41)(ha:p.all (fun q=>decide (cM q=0))=true)(h:0<(p.length:Int)/\nth .str p (IN.wrap ((p.length:Int)-1))=[48]):dx p=40:=by
 rw[pP hl (by omega)] at h;unfold dx;rw[if_neg (by omega),if_neg (by rw[ha];decide),if_pos];refine⟨fun e=>?_,h.2⟩;rw[e] at h;exact absurd h.1 (by decide)
theorem Hq{p:List (List UInt8)}(hs:cQ p)(hl:p.length<=41)(ha:p.all (fun q=>decide (cM q=0))=true)(h:0<(p.length:Int)-> ¬nth .str p (IN.wrap ((p.length:Int)-1))=[48]):p.map fY=aw (dt p)/\0=dx p:=by
 have hc:dx p=0:=by
  unfold dx;rw[if_neg (by omega),if_neg (by rw[ha];decide),if_neg];intro h2;have h3:0<p.length:=by cases p with|nil=>exact absurd rfl h2.1|cons=>simp
  exact h (by omega) (by rw[pP hl h3];exact h2.2)
 refine⟨?_,hc.symm⟩;unfold dt;rw[if_pos hc];exact(gv hs ha).2
end Go.Cm
namespace Go.Cm
open Go.Proofs
def KN:List (List (List UInt8))->Int
 | []=>0
 |p::l=>if dx p=0 then KN l else dx p
end Go.Cm
namespace Go.Cm
open Go.Proofs
end Go.Cm
namespace Go.Cm
open Go.Proofs
end Go.Cm
namespace Go.Cm
open Go.Proofs
end Go.Cm
namespace Go.Cm
open Go.Proofs
end Go.Cm
end
section
namespace Go.Cm
open Go.Proofs
def Hr(D:List ND->List ND->Prop)(f:List Rat->List Rat->List Rat)(p q:List (List UInt8)):Prop:=
 cQ p/\cQ q/\(KN [p,q]=0->D (aw (dt p)) (aw (dt q))/\Sz QC (aw (f (dt p) (dt q)))/\(f (dt p) (dt q)).length<=QL)
end Go.Cm
namespace Go.Cm
open Go.Proofs
end Go.Cm
namespace Go.Cm
open Go.Proofs
end Go.Cm
end
section
namespace Go.Cm
open Go.Proofs
theorem yu(n:Int):∀c∈ON n,c≠47:=by
 obtain⟨d1,_,_,_⟩:=mu n.natAbs;intro c hc;unfold ON at hc;split at hc
 ·rcases IS.1 hc with h|h;·rw[h];decide
  ·have:=d1 c h;intro hc;rw[hc] at this;revert this;decide
 ·have e:n.toNat=n.natAbs:=by omega
  rw[e] at hc;have:=d1 c hc;intro hc;rw[hc] at this;revert this;decide
theorem LA{a b:List UInt8}(h:∀c∈a,c≠47):tN (a++47::b)=a/\cB (a++47::b)=true:=by
 constructor
 ·unfold tN;induction a with
  |nil=>simp
  |cons c l ih=>
   have:=h c (by simp);rw[OS,List.takeWhile_cons,if_pos (by simpa using this),ih fun d hd=>h d (by simp[hd])]
 ·unfold cB;simp
theorem AH{a:List UInt8}(h:∀c∈a,c≠47):cB a=false:=by
 unfold cB;rw[List.any_eq_false];intro c hc;simpa using h c hc
theorem ld(x:Rat):tN (iF x)=ON x.num/\tD (iF x)=ON (x.den:Int)/\cB (iF x)= !decide (x.den=1):=by
 unfold iF;by_cases h:x.den=1
 ·rw[if_pos h];have hs:=AH (yu x.num);refine⟨wx hs,?_,by rw[hs,h];rfl⟩;unfold tD;rw[hs,h,if_neg (by decide)];have h0: [49]=ON ((1:Nat):Int):=by decide+kernel
  exact h0
 ·rw[if_neg h,O4];obtain⟨h1,h2⟩:=LA (b:=ON (x.den:Int)) (yu x.num);rw[show [47]++ON (x.den:Int)=47::ON (x.den:Int) from rfl];refine⟨h1,?_,by rw[h2];simp[h]⟩;unfold tD;rw[if_pos h2];unfold tR;rw[h1,List.drop_append,PB (by omega)];simp
theorem oJ(x:Rat):cu (iF x)=x:=by
 obtain⟨h1,h2,_⟩:=ld x;unfold cu;rw[h1,h2,(fD _).2,(fD _).2];exact Ps x
theorem EI(x:Rat):cM (iF x)=BZ x:=by
 obtain⟨h1,h2,h3⟩:=ld x;unfold cM;rw[h1,h2,(fD _).2,(fD _).2,if_neg,if_neg]
 ·unfold BZ nz;by_cases h:eV x.num<=2000/\eV (x.den:Int)<=2000;·rw[if_neg (by omega),if_pos (decide_eq_true h)]
  ·rw[if_pos (by omega),if_neg (by simpa using h)]
 ·rintro⟨hs,h⟩;have hg:dK x.num (x.den:Int)=1:=by
   rw[<- kV,Int.gcd_comm];have:=x.reduced;unfold Nat.Coprime at this;unfold Int.gcd;rw[QI,this];rfl
  rw[h3] at hs;have h4:¬x.den=1:=by simpa using hs
  have:=x.den_pos;rcases h with h|h;·omega
  ·exact h hg
 ·rintro(h|h);·exact(fD x.num).1 h
  ·exact(fD (x.den:Int)).1 h
theorem AJ{x:Rat}:BZ x=0↔nz x=true:=by
 unfold BZ;split;·rename_i h;simp[h]
 ·rename_i h;simp[h]
theorem oK{q:List UInt8}(h:cM q=0)(hl:q.length<=QL):iF (cu q)=q/\nz (cu q)=true:=by
 have hr:RQ q:=⟨by rw[h];decide,hl⟩;obtain⟨p1,p2⟩:=hr.parts;obtain⟨f1,f2,_⟩:=hr.form;have hc:=hr.chk;rw[h] at hc;constructor
 ·unfold iF;cases hs:cB q
  ·(have e:tD q=[49]:=by unfold tD;rw[hs];rfl);rw[e,wy] at p2;rw[if_pos (by omega),p1,wx hs];rw[wx hs] at f1;exact oC f1
  ·have h5:¬bK (tD q)<=1:=by
    (intro hle;unfold cM at h;split at h;·exact absurd h (by decide));·rw[if_pos ⟨hs,.inl hle⟩] at h;exact absurd h (by decide)
   rw[if_neg (by omega),p1,p2,oC f1,oC f2];have h6:=kX hs;rw[if_pos hs] at h6;rw[<- h6];have hcut:∀q:List UInt8,cB q=true->tN q++ [47]++tR q=q:=by
    intro q hq;induction q with
    |nil=>simp[cB] at hq
    |cons c l ih=>
     by_cases hc:c=47
     ·subst hc;simp[tN,tR]
     ·(have h2:cB l=true:=by simpa [cB,hc] using hq);(have h3:tN (c::l)=c::tN l:=by simp[tN,hc]);(have h4:tR (c::l)=tR l:=by unfold tR;rw[h3];simp);rw[h3,h4];have:=ih h2;simpa using this
   exact hcut q hs
 ·unfold nz;rw[decide_eq_true_eq,p1,p2];split at hc;·exact absurd hc (by decide)
  ·omega
theorem sA{x:Rat}:iF x=[48]↔x=0:=by
 have h0:iF 0=[48]:=by decide+kernel
 constructor;·intro h;have:=oJ x;rw[h,<- h0,oJ] at this;exact this.symm
 ·rintro rfl;exact h0
def txP(l:List Rat):List (List UInt8):=l.map iF
def pQ(l:List Rat):Bool:=l.all nz
theorem wI(l:List Rat):(txP l).length=l.length:=by simp[txP]
theorem JJ(l:List Rat):(txP l).map cu=l:=by
 unfold txP;rw[QW];conv=>rhs;rw[<- Rs l]
 exact Pw fun x _=>oJ x
theorem yv{l:List Rat}(h:l≠[]):(txP l).getLastD []=iF (ao l):=by
 unfold txP ao;rw[Ou,Ou,T8,List.getLast?_eq_some_getLast h];rfl
theorem B5(l:List Rat):(txP l).all (fun q=>decide (cM q=0))=pQ l:=by
 unfold txP pQ;rw[List.all_map];congr 1;funext x;simp only[Function.comp,EI];rw[Bool.eq_iff_iff,decide_eq_true_iff,AJ]
theorem B6{l:List Rat}(hl:l.length<=41)(ht:Trm l)(hf:pQ l=true):dx (txP l)=0/\dt (txP l)=l:=by
 have hc:dx (txP l)=0:=by
  unfold dx;rw[if_neg (by rw[wI];omega),if_neg (by rw[B5,hf];decide),if_neg];rintro⟨h1,h2⟩;have hn:l≠[]:=fun e=>h1 (by rw[e];rfl);rw[yv hn,sA] at h2;exact ht hn h2
 refine⟨hc,?_⟩;unfold dt;rw[if_pos hc,JJ]
theorem JK{p:List (List UInt8)}(hs:cQ p)(h:dx p=0):txP (dt p)=p/\(dt p).length<=41/\Trm (dt p)/\pQ (dt p)=true:=by
 unfold dx at h;split at h;·exact absurd h (by decide)
 rename_i h1;split at h;·exact absurd h (by decide)
 rename_i h2;split at h;·exact absurd h (by decide)
 rename_i h3;have h2:p.all (fun q=>decide (cM q=0))=true:=by simpa using h2
 have hn:dt p=p.map cu:=by
  unfold dt;rw[if_pos];unfold dx;rw[if_neg h1,if_neg (by rw[h2];decide),if_neg h3]
 have ht:txP (p.map cu)=p:=by
  unfold txP;rw[QW];conv=>rhs;rw[<- Rs p]
  rw[Ob] at h2;exact Pw fun q hq=>(oK (by simpa using h2 q hq) (hs.2 q hq)).1
 rw[hn];refine⟨ht,by rw[O2];omega,fun hne hl=>h3 ⟨fun e=>hne (by rw[e];rfl),?_⟩,?_⟩;·rw[<- ht,yv hne,sA];exact hl
 ·rw[<- B5,ht,h2]
theorem B7{n:Int}{k:Nat}(h:lw n<=k)(hk:9*k+1<=2000):eV n<=2000:=by
 have h1:=B4 h;rw[Jd] at h1;have h0:=ny n;rw[fC];have h2:n.natAbs<10^(9*k):=by
  have:=rG n h;rw[Jd] at this;omega
 have:=BV h2;omega
theorem JL{x:Rat}(h:lq x<=222):nz x=true:=by
 have:=dy x;have:=ev x;exact decide_eq_true ⟨B7 (k:=222) (by omega) (by omega),B7 (k:=222) (by omega) (by omega)⟩
theorem Hs{l:List Rat}{b:Nat}(h:Den b l)(hb:b<=222):pQ l=true:=by
 unfold pQ;rw[Ob];exact fun x hx=>JL (Og (h.lq x hx) hb)
structure Pol (l:List Rat):Prop where
 len:l.length<=41
 trm:Trm l
 fit:pQ l=true
theorem Pol.chk{l:List Rat}(h:Pol l):dx (txP l)=0:=(B6 h.len h.trm h.fit).1
theorem Pol.num{l:List Rat}(h:Pol l):dt (txP l)=l:=(B6 h.len h.trm h.fit).2
theorem uZ{x:Rat}{k:Nat}(h:lq x<=k):(iF x).length<=18*k+5:=by
 have h1:=p8 x.num;have h2:=p8 (x.den:Int);have:=dy x;have:=ev x;unfold iF;split;·omega
 ·simp only[Ol,Oo,OO];omega
theorem Ht{n:Int}{K:Nat}(hn:((Oi n.natAbs).length:Int)<=(K:Int)):lw n<=K:=by
 refine kU ?_;obtain⟨d1,d2,_,_⟩:=mu n.natAbs;have h2:=kP d1;rw[d2] at h2;have h3:(10:Nat)^(Oi n.natAbs).length<=10^K:=PA (by omega) (by omega);have h4:(10:Nat)^K<=1000000000^K:=SM (by omega) _;have h5:(LB^K:Int)=((1000000000^K:Nat):Int):=by rw[Sb];rfl
 rw[h5];exact_mod_cast OC h2 (Og h3 h4)
theorem wJ{x:Rat}(h:nz x=true):lq x<=2000:=by
 unfold nz at h;rw[decide_eq_true_eq,fC,fC] at h;exact Nat.max_le.2 ⟨Ht h.1,Ht h.2⟩
theorem Pol.lq{l:List Rat}(h:Pol l):∀x∈l,lq x<=2000:=by
 have:=h.fit;unfold pQ at this;rw[Ob] at this;exact fun x hx=>wJ (this x hx)
theorem Pol.short{l:List Rat}(h:Pol l):cQ (txP l):=by
 have e:QL=1000000000:=rfl;refine⟨by rw[wI];have:=h.len;omega,fun q hq=>?_⟩;obtain⟨x,hx,rfl⟩:=Ot.1 hq;have:=uZ (h.lq x hx);omega
theorem Hu{D:List ND->List ND->Prop}{f:List Rat->List Rat->List Rat}{l m:List Rat}(hl:Pol l)(hm:Pol m)(hD:D (aw l) (aw m))(hs:∀x∈f l m,Cm.lq x<=QC)(hn:(f l m).length<=QL):Hr D f (txP l) (txP m):=by
 refine⟨hl.short,hm.short,fun _=>?_⟩;rw[hl.num,hm.num];exact⟨hD,gT hs,hn⟩
theorem Pol.enc_ok{l:List Rat}{k:Nat}(h:Pol l)(hk:2000<=k):Sz k (aw l):=gT fun x hx=>Og (h.lq x hx) hk
def GQ(K:Nat)(a:List UInt8):Prop:=iF (cu a)=a/\lq (cu a)<=K
theorem GQ.parts{K:Nat}{a:List UInt8}(h:GQ K a):tN a=ON (cu a).num/\tD a=ON ((cu a).den:Int):=by
 have:=ld (cu a);rw[h.1] at this;exact⟨this.1,this.2.1⟩
theorem GQ.rs{K:Nat}{a:List UInt8}(h:GQ K a):RS (9*K+2) (tN a)/\RS (9*K+2) (tD a):=by
 rw[h.parts.1,h.parts.2];have h1:=p8 (cu a).num;have h2:=p8 ((cu a).den:Int);have h3:=dy (cu a);have h4:=ev (cu a);have h5:=h.2;exact⟨⟨(fD _).1,by omega⟩,(fD _).1,by omega⟩
theorem GQ.len{K:Nat}{a:List UInt8}(h:GQ K a):a.length<=18*K+5:=by
 rw[<- h.1];exact uZ h.2
def KO(p q:List (List UInt8)):Prop:=dx p=0/\dx q=0/\0<p.length/\0<q.length/\40<(p.length-1)*(q.length-1)
instance (p q:List (List UInt8)):Decidable (KO p q):=by unfold KO;infer_instance
structure Sml (n b:Nat) (l:List Rat):Prop where
 len:l.length<=n
 trm:Trm l
 den:Den b l
theorem Sml.pol{n b:Nat}{l:List Rat}(h:Sml n b l)(hn:n<=41)(hb:b<=222):Pol l:=⟨Og h.len hn,h.trm,Hs h.den hb⟩
theorem Sml.mul{n m k b c:Nat}{l l2:List Rat}(h:Sml n b l)(h2:Sml m c l2)(hn:n<1000)(hk:n+m<=k+1)(hm:1<=m)(hn1:1<=n):Sml k (b+c+1) (bx l l2):=by
 refine⟨?_,ec h.trm h2.trm,den_mul h.den h2.den (by have:=h.len;omega)⟩;by_cases h3:l=[];·rw[h3,fq];simp
 by_cases h4:l2=[]
 ·rw[h4,dz];simp
 rw[cm h3 h4];have:=h.len;have:=h2.len;omega
theorem Sml.add{n m b c:Nat}{l l2:List Rat}(h:Sml n b l)(h2:Sml m c l2):Sml (max n m) (b+c+1) (ct (· + ·) l l2):=
 ⟨by have:=jH (· + ·) l l2;have:=h.len;have:=h2.len;omega,fF _ _ _,den_add h.den h2.den⟩
theorem Sml.sub{n m b c:Nat}{l l2:List Rat}(h:Sml n b l)(h2:Sml m c l2):Sml (max n m) (b+c+1) (ct (· - ·) l l2):=
 ⟨by have:=jH (· - ·) l l2;have:=h.len;have:=h2.len;omega,fF _ _ _,JH h.den h2.den⟩
theorem Sml.div{n b m c k:Nat}{p q:List Rat}(hp:Sml n b p)(hq:Sml m c q)(h0:q≠[])(hk:b+(n+1)*(c+1)<=k):(∀x∈(divN p q).1,lq x<=k)/\Sml m k (divN p q).2/\(divN p q).2.length<q.length:=by
 have hlp:=hp.len;have hbd:b+(p.length+1-q.length)*(c+1)<=k:=by
  have:(p.length+1-q.length)*(c+1)<=(n+1)*(c+1):=Rp (by omega) (Oa _);omega
 obtain⟨k1,k2⟩:=qg (K:=k) hp.den hq.den h0 hq.trm hbd (by have:=hp.den.pos;omega);have hs:=dk (p:=p) (By.2 h0) (hq.trm h0);exact⟨k1,⟨by have:=hq.len;omega,du hp.trm,k2⟩,hs⟩
def nl(p:List (List UInt8)):List Rat:=p.map cu
def GL(K:Nat)(p:List (List UInt8)):Prop:=∀q∈p,GQ K q
theorem GL.tx{K:Nat}{p:List (List UInt8)}(h:GL K p):txP (nl p)=p:=by
 unfold txP nl;rw[QW];conv=>rhs;rw[<- Rs p]
 exact Pw fun q hq=>(h q hq).1
theorem GL.lq{K:Nat}{p:List (List UInt8)}(h:GL K p):∀x∈nl p,lq x<=K:=by
 intro x hx;obtain⟨q,hq,rfl⟩:=Ot.1 hx;exact(h q hq).2
theorem GL.mono{K m:Nat}{p:List (List UInt8)}(h:GL K p)(hm:K<=m):GL m p:=fun q hq=>⟨(h q hq).1,Og (h q hq).2 hm⟩
theorem GL.ex{K:Nat}{p:List (List UInt8)}(h:GL K p):∃l,p=txP l/\∀x∈l,Cm.lq x<=K:=⟨nl p,h.tx.symm,h.lq⟩
end Go.Cm
end
section
namespace Go.Cm
section
variable {X:Cx} {s s':aa} {K:Exit->aa->Prop} {id:Nat} {ops:Array Oper} {c2:Code} {C C':Prop} {recs:List Rec}
theorem sg(hK:J X c2 s' K)(hG:aV X.P X.T:=by assumption)(he:exec X.T ops.toList ops.toList s=some (C,s'):=by exact ex0)(hC:C:=by first|trivial|omega|(simp;done)|(simp;omega)):J X (.seq (.region id ops false) c2) s K:=al (bZ hG he hC (ag hK))
theorem sq(hC:C')(hK:J X c2 s' K)(hG:aV X.P X.T:=by assumption)(he:exec X.T ops.toList ops.toList s=some (C,s'):=by exact ex0)(hc:C'->C:=by intro h;first|(simp only[ba];exact h)|exact h):J X (.seq (.region id ops false) c2) s K:=al (bZ hG he (hc hC) (ag hK))
theorem sd(hC:C')(hK:J X c2 s' K)(hG:aV X.P X.T:=by assumption)(he:trace X.T ops.toList ops.toList s=some (C,s',recs):=by exact tr0)(ho:cV ops.toList recs=true:=by kernel_rfl)(hf:(recs.flatMap Rec.news).all (fun x=> !s.refs.contains x)=true:=by rfl)(hd:(distinct (s'.env.map Prod.fst)&&distinct (s'.own.map Prod.fst))=true:=by rfl)(hc:C'->C:=by intro h;first|(simp only[ba];exact h)|exact h):J X (.seq (.region id ops true) c2) s K:=al (kL hG he ho hf hd (hc hC) (ag hK))
theorem rg(hK:K .normal s')(hG:aV X.P X.T:=by assumption)(he:exec X.T ops.toList ops.toList s=some (C,s'):=by exact ex0)(hC:C:=by first|trivial|omega|(simp;done)|(simp;omega)):J X (.region id ops false) s K:=bZ hG he hC hK
theorem rq(hC:C')(hK:K .normal s')(hG:aV X.P X.T:=by assumption)(he:exec X.T ops.toList ops.toList s=some (C,s'):=by exact ex0)(hc:C'->C:=by intro h;first|(simp only[ba];exact h)|exact h):J X (.region id ops false) s K:=bZ hG he (hc hC) hK
theorem rd(hC:C')(hK:K .normal s')(hG:aV X.P X.T:=by assumption)(he:trace X.T ops.toList ops.toList s=some (C,s',recs):=by exact tr0)(ho:cV ops.toList recs=true:=by kernel_rfl)(hf:(recs.flatMap Rec.news).all (fun x=> !s.refs.contains x)=true:=by rfl)(hd:(distinct (s'.env.map Prod.fst)&&distinct (s'.own.map Prod.fst))=true:=by rfl)(hc:C'->C:=by intro h;first|(simp only[ba];exact h)|exact h):J X (.region id ops true) s K:=kL hG he ho hf hd (hc hC) hK
theorem qc{c:Operand}{x y:Code}{t:Bool}{p q:Prop}(h1:p->J X x s K)(h2:q->J X y s K)(hc:leaf (aP s c)=some (.z .bool t):=by simp only[Go.Cm.mx0,Go.Cm.mx1,Go.Cm.mx2,Go.Cm.mx3,Go.Cm.mx4,Go.Cm.mx5,Go.Cm.mx6,Go.Cm.effOp,Go.Cm.endCall,Go.Cm.callOp,Go.Cm.appendOp,Go.Cm.sliceLV,Go.Cm.Ty.fieldTy,Go.Cm.Ty.fieldOf,N8,AS,IT,N3,No,AT,N4,N5,reduceIte,reduceDIte,reduceCtorEq];rfl)(e1:t=true->p:=by intro h;first|(simp only[bt] at h;exact h)|exact h)(e2:t=false->q:=by intro h;first|(simp only[bf] at h;exact h)|exact h):J X (.cond c x y) s K:=FW hc (fun h=>h1 (e1 h)) (fun h=>h2 (e2 h))
end
theorem qe{p:List Nat->Prop}{q:Prop}(l:List Nat)(hq:q)(h:p l=q:=by simp only[hT,hX,Go.Cm.mr0,Go.Cm.mr1,Go.Cm.mr2,Go.Cm.isNilP,N8,AS,IT,N3,No,AT,N4,N5,reduceIte,reduceDIte,reduceCtorEq];rfl):∃l,p l:=⟨l,h▸hq⟩
def mT(B:av)(ts:List (TypeId×Ty))(es:List (TypeId×TypeId))(cs:List (FuncId×Con))(hs:List Nat)(n:Nat):Tab:={types:=ts,elems:=es,cons:=cs,hint:=hs,N:=n,base:=B}
def mTg(B:av)(ts:List (TypeId×Ty))(es:List (TypeId×TypeId))(cs:List (FuncId×Con))(hs:List Nat)(n:Nat)(gs:List (Nat×List Int)):Tab:={types:=ts,elems:=es,cons:=cs,hint:=hs,N:=n,base:=B,globs:=gs}
theorem mg{P:Program}{T:Tab}(h1:∀t u,get? T.types t=some u->cE P t u)(h2:∀t e,get? T.elems t=some e->P.underlying t=some (.slice e))(h3:eX P T)(hN:T.N<=ioB:=by exact OZ rfl)(hm:P.follows .mixedOrders=true:=by kernel_rfl)(hg:∀g xs,get? T.globs g=some xs->∀w,T.base.On w->∀j (h:j<xs.length),w.cell? ⟨g,j,none⟩=some (.int .i64 xs[j]):=by exact fun _ _ h=>nomatch h):aV P T:=⟨⟨h1,h2,hN,hg⟩,h3,hm⟩
theorem tt{C:Prop}(h:C:=by first|trivial|omega|(simp;done)|(simp;omega)):C:=h
def c0(C:Prop)(r:List RV):Con:=fun l os=>match l,os with
 | [],[]=>some (C,r,[])
 |_,_=>none
theorem Nd{C:Prop}{r:List RV}:c0 C r [] []=some (C,r,[]):=by
 rfl
theorem LC{C:Prop}{r:List RV}{l:List LV}{os os':List aB}{P:Prop}{rs:List RV}(h:c0 C r l os=some (P,rs,os')):l=[]/\os=[]/\P=C/\rs=r/\os'=[]:=by
 unfold c0 at h;split at h;·cases h;exact⟨rfl,rfl,rfl,rfl,rfl⟩
 ·cases h
theorem v0{P:Program}{T:Tab}{fn:Func}{f:FuncId}{code:Code}{C:Prop}{r:List RV}(g:aV P T)(hf:P.funcs[f]? =some fn)(h:C->∀X:Cx,X.P=P->X.T=T->X.calm->aV X.P X.T->J X code {env:=aD 0 [],own:=af ioB []} (Ends T fn r []))(hb:fn.body=some code:=by rfl)(hN:T.N=fn.ntmps:=by rfl)(hk:T.keep=[]:=by rfl)(hr:T.free=[]:=by rfl)(hp:T.pins=[]:=by rfl)(hl:0<=T.N:=by exact OZ rfl):Valid T.base P f (c0 C r):=by
 refine bh g.tab hf hb hN hk ?_ hr hp;intro args os D rs os' hc hD;obtain⟨rfl,rfl,rfl,rfl,rfl⟩:=LC hc;exact⟨hl,rfl,fun X hP hT hX=>h hD X hP hT hX (by rw[hP,hT];exact g)⟩
def c1(t1:Ty)(C:t1.D->Prop)(r:t1.D->List RV):Con:=fun l os=>match l,os with
 | [.z u1 x1],[]=>if h:u1=t1 then some (C (h▸x1),r (h▸x1),[]) else none
 |_,_=>none
theorem Nf{t1:Ty}{C:t1.D->Prop}{r:t1.D->List RV}(x1:t1.D):c1 t1 C r [.z t1 x1] []=some (C x1,r x1,[]):=by
 unfold c1;simp
theorem Hv{t1:Ty}{C:t1.D->Prop}{r:t1.D->List RV}{l:List LV}{os os':List aB}{P:Prop}{rs:List RV}(h:c1 t1 C r l os=some (P,rs,os')):∃x1,l=[.z t1 x1]/\os=[]/\P=(C x1)/\rs=(r x1)/\os'=[]:=by
 unfold c1 at h;split at h
 ·split at h;·rename_i hh;subst hh;cases h;exact⟨_,rfl,rfl,rfl,rfl,rfl⟩
  ·cases h
 ·cases h
theorem v1{P:Program}{T:Tab}{fn:Func}{f:FuncId}{code:Code}{t1:Ty}{C:t1.D->Prop}{r:t1.D->List RV}(g:aV P T)(hf:P.funcs[f]? =some fn)(h:∀(x1:t1.D),C x1->∀X:Cx,X.P=P->X.T=T->X.calm->aV X.P X.T->J X code {env:=aD 0 [.z t1 x1],own:=af ioB []} (Ends T fn (r x1) []))(hb:fn.body=some code:=by rfl)(hN:T.N=fn.ntmps:=by rfl)(hk:T.keep=[]:=by rfl)(hr:T.free=[]:=by rfl)(hp:T.pins=[]:=by rfl)(hl:1<=T.N:=by exact OZ rfl):Valid T.base P f (c1 t1 C r):=by
 refine bh g.tab hf hb hN hk ?_ hr hp;intro args os D rs os' hc hD;obtain⟨x1,rfl,rfl,rfl,rfl,rfl⟩:=Hv hc;exact⟨hl,rfl,fun X hP hT hX=>h x1 hD X hP hT hX (by rw[hP,hT];exact g)⟩
def c2(t1 t2:Ty)(C:t1.D->t2.D->Prop)(r:t1.D->t2.D->List RV):Con:=fun l os=>match l,os with
 | [.z u1 x1,.z u2 x2],[]=>if h:u1=t1/\u2=t2 then some (C (h.1▸x1) (h.2▸x2),r (h.1▸x1) (h.2▸x2),[]) else none
 |_,_=>none
theorem Ng{t1 t2:Ty}{C:t1.D->t2.D->Prop}{r:t1.D->t2.D->List RV}(x1:t1.D)(x2:t2.D):c2 t1 t2 C r [.z t1 x1,.z t2 x2] []=some (C x1 x2,r x1 x2,[]):=by
 unfold c2;simp
theorem mC{t1 t2:Ty}{C:t1.D->t2.D->Prop}{r:t1.D->t2.D->List RV}{l:List LV}{os os':List aB}{P:Prop}{rs:List RV}(h:c2 t1 t2 C r l os=some (P,rs,os')):∃x1 x2,l=[.z t1 x1,.z t2 x2]/\os=[]/\P=(C x1 x2)/\rs=(r x1 x2)/\os'=[]:=by
 unfold c2 at h;split at h
 ·split at h;·rename_i hh;obtain⟨rfl,rfl⟩:=hh;cases h;exact⟨_,_,rfl,rfl,rfl,rfl,rfl⟩
  ·cases h
 ·cases h
theorem v2{P:Program}{T:Tab}{fn:Func}{f:FuncId}{code:Code}{t1 t2:Ty}{C:t1.D->t2.D->Prop}{r:t1.D->t2.D->List RV}(g:aV P T)(hf:P.funcs[f]? =some fn)(h:∀(x1:t1.D) (x2:t2.D),C x1 x2->∀X:Cx,X.P=P->X.T=T->X.calm->aV X.P X.T->J X code {env:=aD 0 [.z t1 x1,.z t2 x2],own:=af ioB []} (Ends T fn (r x1 x2) []))(hb:fn.body=some code:=by rfl)(hN:T.N=fn.ntmps:=by rfl)(hk:T.keep=[]:=by rfl)(hr:T.free=[]:=by rfl)(hp:T.pins=[]:=by rfl)(hl:2<=T.N:=by exact OZ rfl):Valid T.base P f (c2 t1 t2 C r):=by
 refine bh g.tab hf hb hN hk ?_ hr hp;intro args os D rs os' hc hD;obtain⟨x1,x2,rfl,rfl,rfl,rfl,rfl⟩:=mC hc;exact⟨hl,rfl,fun X hP hT hX=>h x1 x2 hD X hP hT hX (by rw[hP,hT];exact g)⟩
def c3(t1 t2 t3:Ty)(C:t1.D->t2.D->t3.D->Prop)(r:t1.D->t2.D->t3.D->List RV):Con:=fun l os=>match l,os with
 | [.z u1 x1,.z u2 x2,.z u3 x3],[]=>if h:u1=t1/\u2=t2/\u3=t3 then some (C (h.1▸x1) (h.2.1▸x2) (h.2.2▸x3),r (h.1▸x1) (h.2.1▸x2) (h.2.2▸x3),[]) else none
 |_,_=>none
theorem Nh{t1 t2 t3:Ty}{C:t1.D->t2.D->t3.D->Prop}{r:t1.D->t2.D->t3.D->List RV}(x1:t1.D)(x2:t2.D)(x3:t3.D):c3 t1 t2 t3 C r [.z t1 x1,.z t2 x2,.z t3 x3] []=some (C x1 x2 x3,r x1 x2 x3,[]):=by
 unfold c3;simp
theorem LD{t1 t2 t3:Ty}{C:t1.D->t2.D->t3.D->Prop}{r:t1.D->t2.D->t3.D->List RV}{l:List LV}{os os':List aB}{P:Prop}{rs:List RV}(h:c3 t1 t2 t3 C r l os=some (P,rs,os')):∃x1 x2 x3,l=[.z t1 x1,.z t2 x2,.z t3 x3]/\os=[]/\P=(C x1 x2 x3)/\rs=(r x1 x2 x3)/\os'=[]:=by
 unfold c3 at h;split at h
 ·split at h;·rename_i hh;obtain⟨rfl,rfl,rfl⟩:=hh;cases h;exact⟨_,_,_,rfl,rfl,rfl,rfl,rfl⟩
  ·cases h
 ·cases h
theorem v3{P:Program}{T:Tab}{fn:Func}{f:FuncId}{code:Code}{t1 t2 t3:Ty}{C:t1.D->t2.D->t3.D->Prop}{r:t1.D->t2.D->t3.D->List RV}(g:aV P T)(hf:P.funcs[f]? =some fn)(h:∀(x1:t1.D) (x2:t2.D) (x3:t3.D),C x1 x2 x3->∀X:Cx,X.P=P->X.T=T->X.calm->aV X.P X.T->J X code {env:=aD 0 [.z t1 x1,.z t2 x2,.z t3 x3],own:=af ioB []} (Ends T fn (r x1 x2 x3) []))(hb:fn.body=some code:=by rfl)(hN:T.N=fn.ntmps:=by rfl)(hk:T.keep=[]:=by rfl)(hr:T.free=[]:=by rfl)(hp:T.pins=[]:=by rfl)(hl:3<=T.N:=by exact OZ rfl):Valid T.base P f (c3 t1 t2 t3 C r):=by
 refine bh g.tab hf hb hN hk ?_ hr hp;intro args os D rs os' hc hD;obtain⟨x1,x2,x3,rfl,rfl,rfl,rfl,rfl⟩:=LD hc;exact⟨hl,rfl,fun X hP hT hX=>h x1 x2 x3 hD X hP hT hX (by rw[hP,hT];exact g)⟩
def c4(t1 t2 t3 t4:Ty)(C:t1.D->t2.D->t3.D->t4.D->Prop)(r:t1.D->t2.D->t3.D->t4.D->List RV):Con:=fun l os=>match l,os with
 | [.z u1 x1,.z u2 x2,.z u3 x3,.z u4 x4],[]=>if h:u1=t1/\u2=t2/\u3=t3/\u4=t4 then some (C (h.1▸x1) (h.2.1▸x2) (h.2.2.1▸x3) (h.2.2.2▸x4),r (h.1▸x1) (h.2.1▸x2) (h.2.2.1▸x3) (h.2.2.2▸x4),[]) else none
 |_,_=>none
theorem Ni{t1 t2 t3 t4:Ty}{C:t1.D->t2.D->t3.D->t4.D->Prop}{r:t1.D->t2.D->t3.D->t4.D->List RV}(x1:t1.D)(x2:t2.D)(x3:t3.D)(x4:t4.D):c4 t1 t2 t3 t4 C r [.z t1 x1,.z t2 x2,.z t3 x3,.z t4 x4] []=some (C x1 x2 x3 x4,r x1 x2 x3 x4,[]):=by
 unfold c4;simp
theorem LF{t1 t2 t3 t4:Ty}{C:t1.D->t2.D->t3.D->t4.D->Prop}{r:t1.D->t2.D->t3.D->t4.D->List RV}{l:List LV}{os os':List aB}{P:Prop}{rs:List RV}(h:c4 t1 t2 t3 t4 C r l os=some (P,rs,os')):∃x1 x2 x3 x4,l=[.z t1 x1,.z t2 x2,.z t3 x3,.z t4 x4]/\os=[]/\P=(C x1 x2 x3 x4)/\rs=(r x1 x2 x3 x4)/\os'=[]:=by
 unfold c4 at h;split at h
 ·split at h;·rename_i hh;obtain⟨rfl,rfl,rfl,rfl⟩:=hh;cases h;exact⟨_,_,_,_,rfl,rfl,rfl,rfl,rfl⟩
  ·cases h
 ·cases h
theorem v4{P:Program}{T:Tab}{fn:Func}{f:FuncId}{code:Code}{t1 t2 t3 t4:Ty}{C:t1.D->t2.D->t3.D->t4.D->Prop}{r:t1.D->t2.D->t3.D->t4.D->List RV}(g:aV P T)(hf:P.funcs[f]? =some fn)(h:∀(x1:t1.D) (x2:t2.D) (x3:t3.D) (x4:t4.D),C x1 x2 x3 x4->∀X:Cx,X.P=P->X.T=T->X.calm->aV X.P X.T->J X code {env:=aD 0 [.z t1 x1,.z t2 x2,.z t3 x3,.z t4 x4],own:=af ioB []} (Ends T fn (r x1 x2 x3 x4) []))(hb:fn.body=some code:=by rfl)(hN:T.N=fn.ntmps:=by rfl)(hk:T.keep=[]:=by rfl)(hr:T.free=[]:=by rfl)(hp:T.pins=[]:=by rfl)(hl:4<=T.N:=by exact OZ rfl):Valid T.base P f (c4 t1 t2 t3 t4 C r):=by
 refine bh g.tab hf hb hN hk ?_ hr hp;intro args os D rs os' hc hD;obtain⟨x1,x2,x3,x4,rfl,rfl,rfl,rfl,rfl⟩:=LF hc;exact⟨hl,rfl,fun X hP hT hX=>h x1 x2 x3 x4 hD X hP hT hX (by rw[hP,hT];exact g)⟩
def c5(t1 t2 t3 t4 t5:Ty)(C:t1.D->t2.D->t3.D->t4.D->t5.D->Prop)(r:t1.D->t2.D->t3.D->t4.D->t5.D->List RV):Con:=fun l os=>match l,os with
 | [.z u1 x1,.z u2 x2,.z u3 x3,.z u4 x4,.z u5 x5],[]=>if h:u1=t1/\u2=t2/\u3=t3/\u4=t4/\u5=t5 then some (C (h.1▸x1) (h.2.1▸x2) (h.2.2.1▸x3) (h.2.2.2.1▸x4) (h.2.2.2.2▸x5),r (h.1▸x1) (h.2.1▸x2) (h.2.2.1▸x3) (h.2.2.2.1▸x4) (h.2.2.2.2▸x5),[]) else none
 |_,_=>none
theorem Nj{t1 t2 t3 t4 t5:Ty}{C:t1.D->t2.D->t3.D->t4.D->t5.D->Prop}{r:t1.D->t2.D->t3.D->t4.D->t5.D->List RV}(x1:t1.D)(x2:t2.D)(x3:t3.D)(x4:t4.D)(x5:t5.D):c5 t1 t2 t3 t4 t5 C r [.z t1 x1,.z t2 x2,.z t3 x3,.z t4 x4,.z t5 x5] []=some (C x1 x2 x3 x4 x5,r x1 x2 x3 x4 x5,[]):=by
 unfold c5;simp
theorem LG{t1 t2 t3 t4 t5:Ty}{C:t1.D->t2.D->t3.D->t4.D->t5.D->Prop}{r:t1.D->t2.D->t3.D->t4.D->t5.D->List RV}{l:List LV}{os os':List aB}{P:Prop}{rs:List RV}(h:c5 t1 t2 t3 t4 t5 C r l os=some (P,rs,os')):∃x1 x2 x3 x4 x5,l=[.z t1 x1,.z t2 x2,.z t3 x3,.z t4 x4,.z t5 x5]/\os=[]/\P=(C x1 x2 x3 x4 x5)/\rs=(r x1 x2 x3 x4 x5)/\os'=[]:=by
 unfold c5 at h;split at h
 ·split at h;·rename_i hh;obtain⟨rfl,rfl,rfl,rfl,rfl⟩:=hh;cases h;exact⟨_,_,_,_,_,rfl,rfl,rfl,rfl,rfl⟩
  ·cases h
 ·cases h
theorem v5{P:Program}{T:Tab}{fn:Func}{f:FuncId}{code:Code}{t1 t2 t3 t4 t5:Ty}{C:t1.D->t2.D->t3.D->t4.D->t5.D->Prop}{r:t1.D->t2.D->t3.D->t4.D->t5.D->List RV}(g:aV P T)(hf:P.funcs[f]? =some fn)(h:∀(x1:t1.D) (x2:t2.D) (x3:t3.D) (x4:t4.D) (x5:t5.D),C x1 x2 x3 x4 x5->∀X:Cx,X.P=P->X.T=T->X.calm->aV X.P X.T->J X code {env:=aD 0 [.z t1 x1,.z t2 x2,.z t3 x3,.z t4 x4,.z t5 x5],own:=af ioB []} (Ends T fn (r x1 x2 x3 x4 x5) []))(hb:fn.body=some code:=by rfl)(hN:T.N=fn.ntmps:=by rfl)(hk:T.keep=[]:=by rfl)(hr:T.free=[]:=by rfl)(hp:T.pins=[]:=by rfl)(hl:5<=T.N:=by exact OZ rfl):Valid T.base P f (c5 t1 t2 t3 t4 t5 C r):=by
 refine bh g.tab hf hb hN hk ?_ hr hp;intro args os D rs os' hc hD;obtain⟨x1,x2,x3,x4,x5,rfl,rfl,rfl,rfl,rfl⟩:=LG hc;exact⟨hl,rfl,fun X hP hT hX=>h x1 x2 x3 x4 x5 hD X hP hT hX (by rw[hP,hT];exact g)⟩
def c6(t1 t2 t3 t4 t5 t6:Ty)(C:t1.D->t2.D->t3.D->t4.D->t5.D->t6.D->Prop)(r:t1.D->t2.D->t3.D->t4.D->t5.D->t6.D->List RV):Con:=fun l os=>match l,os with
 | [.z u1 x1,.z u2 x2,.z u3 x3,.z u4 x4,.z u5 x5,.z u6 x6],[]=>if h:u1=t1/\u2=t2/\u3=t3/\u4=t4/\u5=t5/\u6=t6 then some (C (h.1▸x1) (h.2.1▸x2) (h.2.2.1▸x3) (h.2.2.2.1▸x4) (h.2.2.2.2.1▸x5) (h.2.2.2.2.2▸x6),r (h.1▸x1) (h.2.1▸x2) (h.2.2.1▸x3) (h.2.2.2.1▸x4) (h.2.2.2.2.1▸x5) (h.2.2.2.2.2▸x6),[]) else none
 |_,_=>none
theorem Nk{t1 t2 t3 t4 t5 t6:Ty}{C:t1.D->t2.D->t3.D->t4.D->t5.D->t6.D->Prop}{r:t1.D->t2.D->t3.D->t4.D->t5.D->t6.D->List RV}(x1:t1.D)(x2:t2.D)(x3:t3.D)(x4:t4.D)(x5:t5.D)(x6:t6.D):c6 t1 t2 t3 t4 t5 t6 C r [.z t1 x1,.z t2 x2,.z t3 x3,.z t4 x4,.z t5 x5,.z t6 x6] []=some (C x1 x2 x3 x4 x5 x6,r x1 x2 x3 x4 x5 x6,[]):=by
 unfold c6;simp
theorem LH{t1 t2 t3 t4 t5 t6:Ty}{C:t1.D->t2.D->t3.D->t4.D->t5.D->t6.D->Prop}{r:t1.D->t2.D->t3.D->t4.D->t5.D->t6.D->List RV}{l:List LV}{os os':List aB}{P:Prop}{rs:List RV}(h:c6 t1 t2 t3 t4 t5 t6 C r l os=some (P,rs,os')):∃x1 x2 x3 x4 x5 x6,l=[.z t1 x1,.z t2 x2,.z t3 x3,.z t4 x4,.z t5 x5,.z t6 x6]/\os=[]/\P=(C x1 x2 x3 x4 x5 x6)/\rs=(r x1 x2 x3 x4 x5 x6)/\os'=[]:=by
 unfold c6 at h;split at h
 ·split at h;·rename_i hh;obtain⟨rfl,rfl,rfl,rfl,rfl,rfl⟩:=hh;cases h;exact⟨_,_,_,_,_,_,rfl,rfl,rfl,rfl,rfl⟩
  ·cases h
 ·cases h
theorem v6{P:Program}{T:Tab}{fn:Func}{f:FuncId}{code:Code}{t1 t2 t3 t4 t5 t6:Ty}{C:t1.D->t2.D->t3.D->t4.D->t5.D->t6.D->Prop}{r:t1.D->t2.D->t3.D->t4.D->t5.D->t6.D->List RV}(g:aV P T)(hf:P.funcs[f]? =some fn)(h:∀(x1:t1.D) (x2:t2.D) (x3:t3.D) (x4:t4.D) (x5:t5.D) (x6:t6.D),C x1 x2 x3 x4 x5 x6->∀X:Cx,X.P=P->X.T=T->X.calm->aV X.P X.T->J X code {env:=aD 0 [.z t1 x1,.z t2 x2,.z t3 x3,.z t4 x4,.z t5 x5,.z t6 x6],own:=af ioB []} (Ends T fn (r x1 x2 x3 x4 x5 x6) []))(hb:fn.body=some code:=by rfl)(hN:T.N=fn.ntmps:=by rfl)(hk:T.keep=[]:=by rfl)(hr:T.free=[]:=by rfl)(hp:T.pins=[]:=by rfl)(hl:6<=T.N:=by exact OZ rfl):Valid T.base P f (c6 t1 t2 t3 t4 t5 t6 C r):=by
 refine bh g.tab hf hb hN hk ?_ hr hp;intro args os D rs os' hc hD;obtain⟨x1,x2,x3,x4,x5,x6,rfl,rfl,rfl,rfl,rfl⟩:=LH hc;exact⟨hl,rfl,fun X hP hT hX=>h x1 x2 x3 x4 x5 x6 hD X hP hT hX (by rw[hP,hT];exact g)⟩
def cx:=ai @mT.eq_1<|ai @mTg.eq_1<|ai @Nd<|ai @Nf<|ai @Ng<|ai @Nh<|ai @Ni<|ai @Nj<| @Nk
end Go.Cm
end
section
namespace Go.Proofs
open Go.RowKit Go.Cm Go.Shelf
attribute [local go_sem] Oper.semAt_some
def sB(xs:List Int)(k:Nat):List LV:=[.z (.int .i64) ((xs.length:Int)-1-k),.z (.int .u32) (xs.getD (xs.length-1-k) 0)]
def cW(xs:List Int):List (List LV):=(Pa xs.length).map (sB xs)
set_option maxRecDepth 100000 in
set_option maxHeartbeats 2000000 in
theorem JM(F:Fence)(h7:F.fn 219)(hro:F.round=none)(l Bs oB b off len cap:Nat)(xs:List Int)(hlen:xs.length=len)(hbig:len<=maxLen)(J:Nat->World->Prop)(Jx:World->Prop)(Kp:World->World->Prop)
  (W:World) (hBs:W.cell? ⟨Bs,oB,none⟩=some (.slice (some ⟨b,off,none⟩) len cap)) (hc:∀j,j<len->W.cell? ⟨b,off+j,none⟩=some (.int .u32 (xs.getD j 0)))
  (hKp:∀A B,Kp A B->(∃o:Obj,A.heap[Bs]? =some o/\o.isCells=true)->((0<len)->∃o:Obj,A.heap[b]? =some o/\o.isCells=true)->B.heap[Bs]? =A.heap[Bs]? /\(0<len->B.heap[b]? =A.heap[b]?))
  (hY:∀k W1,J k W1->k<len->YieldAt F 0 Tryz.prog l #[.int .i64 ((len:Int)-1-k),.int .u32 (xs.getD (len-1-k) 0)] W1 fun e W'=>(e= .returned (.bool true)/\J (k+1) W'/\Kp W1 W')∨(e= .returned (.bool false)/\Jx W'))
  (h0:J 0 W):
  CallsIn F 1 Tryz.prog 219 #[.func (.yield l) #[] #[],.pointer (some ⟨Bs,oB,none⟩)] W fun e W'=>(∃v,e= .returned v)/\(J len W'∨Jx W'):=by
 unfold maxLen at hbig;refine callsIn_of_wp Tryz.func219 rfl h7 ?_ hro;simp only[Tryz.ntmps219,OQ,Oo,OO,IT,No,RM,RN,Sn,Rf,OY,OS]
 gi_wp2
 gi_loopw [3] (fun i wr=>∃k:Nat,k<=len/\i= .int .i64 ((len:Int)-1-k)/\J k wr/\wr.heap[Bs]? =W.heap[Bs]? /\(0<len->wr.heap[b]? =W.heap[b]?))
  (fun i _=>(intOf i+1).toNat)
 case atStart=>exact⟨0,PM _,by simp,h0,rfl,fun _=>rfl⟩
 case round=>
  obtain⟨k,hk,rfl,hJs,hn1,hn2⟩:=hrel;have hB1:wr.cell? ⟨Bs,oB,none⟩=some (.slice (some ⟨b,off,none⟩) len cap):=(World.cell?_of_block (a:=⟨Bs,oB,none⟩) hn1).trans hBs;by_cases hlt:k<len
  ·(have hge:0<=(len:Int)-1-k:=by omega);(have htn:((len:Int)-1-k).toNat=len-1-k:=by omega);(have hup:(len:Int)-1-k<len:=by omega);have hcx:wr.cell? ⟨b,off+(len-1-k),none⟩=some (.int .u32 (xs.getD (len-1-k) 0)):=(World.cell?_of_block (a:=⟨b,off+(len-1-k),none⟩) (hn2 (by omega))).trans (hc _ (by omega));have hcB:∃o:Obj,wr.heap[Bs]? =some o/\o.isCells=true:=cells_of_cell hB1;have hcb:∃o:Obj,wr.heap[b]? =some o/\o.isCells=true:=cells_of_cell hcx;obtain⟨fn,tmps,assign,body,hy,hR⟩:=hY k wr hJs hlt;generalize xs.getD (len-1-k) 0=x at*
   gi_wp2
   refine hR.mono ?_;rintro e W3 (⟨rfl,hJ3,hk3⟩|⟨rfl,hJx3⟩)
   ·obtain⟨e1,e2⟩:=hKp _ _ hk3 hcB (fun _=>hcb)
    gi_wp2
    go_roundw
    (case rel=>exact⟨k+1,by omega,by congr 1;omega,hJ3,e1.trans hn1,fun h=>(e2 h).trans (hn2 h)⟩);case measure=>simp[intOf];omega
   ·gi_wp2
    refine bodyPost_ret (results_none rfl _ _ _) rfl ?_;exact⟨⟨_,rfl⟩,.inr hJx3⟩
  ·(have hk2:k=len:=by omega);(have hng:¬0<=(len:Int)-1-k:=by omega);rw[hk2] at hJs;clear hk2
   gi_wp2
   go_end0
   exact⟨⟨_,rfl⟩,.inl hJs⟩
set_option maxRecDepth 100000 in
set_option maxHeartbeats 2000000 in
theorem yw(F:Fence)(h7:F.fn 219)(hro:F.round=none)(l Bs oB:Nat)(J:World->Prop)(W:World)(a:Option Addr)(cap:Nat)(hBs:W.cell? ⟨Bs,oB,none⟩=some (.slice a 0 cap))(h0:J W):
  CallsIn F 1 Tryz.prog 219 #[.func (.yield l) #[] #[],.pointer (some ⟨Bs,oB,none⟩)] W fun e W'=>(∃v,e= .returned v)/\J W':=by
 refine callsIn_of_wp Tryz.func219 rfl h7 ?_ hro;simp only[Tryz.ntmps219,OQ,Oo,OO,IT,No,RM,RN,Sn,Rf,OY,OS]
 gi_wp2
 gi_loopw [3] (fun i wr=>i= .int .i64 (-1)/\wr=W) (fun i _=>(intOf i+1).toNat)
 case atStart=>exact⟨rfl,rfl⟩
 case round=>
  obtain⟨rfl,rfl⟩:=hrel
  gi_wp2
  go_end0
  exact⟨⟨_,rfl⟩,h0⟩
theorem ma{H:Nat->Prop}{w:World}{b o:Nat}{c:Value}(h:dB H w b o [c]):w.cell? ⟨b,o,none⟩=some c/\b<w.heap.size/\ ¬H b:=
 ⟨by have:=h.2 0 (by simp);simpa using this,h.lt (by simp),h.1 (by simp)⟩
theorem yx(xs:List Int):nn Tryz.prog 219 2 [.z (.ptr (.slice (.int .u32))) xs] (cW xs):=by
 refine⟨enters_of Tryz.func219 (by kernel_rfl) rfl,?_,?_⟩;·intro it hit;obtain⟨k,_,rfl⟩:=Ot.1 hit;exact⟨rfl,rfl⟩
 ·intro H w lb hH hcap;obtain⟨v,rfl⟩:∃v,lb=[v]:=by
   match lb,hcap with
   | [v],_=>exact⟨v,rfl⟩
   |_::_::_,h=>exact h.2.elim
  obtain⟨hag,bB,oB,cells,hv,hsl,hlies⟩:=hcap.1;have hv2:v= .pointer (some ⟨bB,oB,none⟩):=by
   have hone:=ck (v:=v) (by cases v<;>first|rfl|(simp[Ty.isAgg] at hag));rw[hone] at hv;simpa using hv
  subst hv2;refine⟨fun k=> #[.int .i64 ((xs.length:Int)-1-k),.int .u32 (xs.getD (xs.length-1-k) 0)],fun k hk=>?_,?_⟩;·simp only[cW,Qa,P4];exact⟨bP (ρ:=fun _=>undef),bP (ρ:=fun _=>undef),trivial⟩
  ·(intro l J Jx W hb _ _ _ _ hY h0;(have hlen:(cW xs).length=xs.length:=by simp[cW]);rw[hlen] at hY ⊢;rcases hsl with⟨rfl,rfl⟩|⟨b,o,p,cap,cs,rfl,hp,h1,h2,h3,h4⟩);·obtain⟨c1,c2,c3⟩:=ma hlies;exact(yw (fw none) trivial rfl l bB oB (J 0) W none 0 ((hb.cell (p:=⟨bB,oB,none⟩) c2).trans c1) h0).mono (fun e W' h=>⟨h.1,.inl h.2⟩)
   ·(obtain⟨c1,c2,c3⟩:=ma hlies;by_cases hnil:xs=[];·subst hnil;exact(yw (fw none) trivial rfl l bB oB (J 0) W (some ⟨b,o,p⟩) cap ((hb.cell (p:=⟨bB,oB,none⟩) c2).trans c1) h0).mono (fun e W' h=>⟨h.1,.inl h.2⟩));obtain rfl:=hp hnil;have hcs:=mU h3;(have hne:0<xs.length->cs≠[]:=fun h e=>by rw[hcs] at e;simp at e;subst e;simp at h);refine JM (fw none) trivial rfl l bB oB b o xs.length cap xs rfl (Og h1 h2) J Jx (xE H w.heap.size) W ((hb.cell (p:=⟨bB,oB,none⟩) c2).trans c1) (fun j hj=>?_) (fun A B hk hA1 hA2=>⟨hk bB c2 c3 hA1,fun h=>hk b (h4.lt (hne h)) (h4.1 (hne h)) (hA2 h)⟩) hY h0;(have hj':j<cs.length:=by rw[hcs];simpa using hj);rw[hb.cell (p:=⟨b,o+j,none⟩) (h4.lt (hne (by omega))),h4.2 j hj',hcs,Pp,AI hj];simp[sh,AI hj]
end Go.Proofs
end
section
namespace Go.Cm
open Go.RowKit
def stepF(T:Tab)(fs:List Nat)(ops:List Oper)(o:Oper)(s:aa):Option (Prop×aa):=
 match o.guard,o.dst with
 |some (j,want),some d=>match fs.contains d with
  |true=>match guardOf ops s j want,c9 T ops {o with guard:=none} s with
   |some φ,some (C,s')=>some (φ=true/\C,s')
   |_,_=>none
  |false=>c9 T ops o s
 |_,_=>c9 T ops o s
def execF(T:Tab)(fs:List Nat)(ops:List Oper):List Oper->aa->Option (Prop×aa)
 | [],s=>some (True,s)
 |o::r,s=>match stepF T fs ops o s with
  |some (C,s1)=>match execF T fs ops r s1 with
   |some (C',s2)=>some (C/\C',s2)
   |none=>none
  |none=>none
theorem Hw{X:Cx}(hT:cT X.P X.T)(hΓ:eX X.P X.T){fs:List Nat}{ops:List Oper}{o:Oper}{s s':aa}{a:Act}{w:World}(h:St X s a w){C:Prop}(he:stepF X.T fs ops o s=some (C,s'))(hC:C)
  {K:Act->World->Prop} {Q:Exit->Act->World->Prop} (hK:∀a' w',St X s' a' w'->K a' w'):
  if Region.wanted o (yielded ops.toArray a.tmps) then o.wpIn (fw X.r) 2 X.P a w K Q else (∀f,o.about X.P w a.eval=some f->(fw X.r).fn f)/\K (a.put o.dst undef) w:=by
 unfold stepF at he;split at he
 ·rename_i j want d hg hd;split at he
  ·(split at he;·rename_i φ C' s2 hφ h2;cases he;obtain⟨ρ,hf⟩:=h.fits;have hw:=qZ hf hg hφ;rw[if_pos (hw.trans hC.1)];have h3:=jS hT hΓ (ops:=ops) (K:=K) (Q:=Q) h h2 hC.2 hK;(have hw2:Region.wanted {o with guard:=none} (yielded ops.toArray a.tmps)=true:=by simp[Region.wanted]);rw[if_pos hw2] at h3;exact h3);·cases he
  ·exact jS hT hΓ h he hC hK
 ·exact jS hT hΓ h he hC hK
theorem yy{X:Cx}(hT:cT X.P X.T)(hΓ:eX X.P X.T){fs:List Nat}{ops:List Oper}{Q:Exit->Act->World->Prop}:∀(l:List Oper) {s s':aa} {a:Act} {w:World} {C:Prop},St X s a w->execF X.T fs ops l s=some (C,s')->C->(∀a' w',St X s' a' w'->Q .normal a' w')->wpListIn (fw X.r) 2 X.P ops.toArray Q l a w
 | [],s,s',a,w,C,h,he,hC,hQ=>by simp[execF] at he;obtain⟨_,rfl⟩:=he;exact hQ _ _ h
 |o::r,s,s',a,w,C,h,he,hC,hQ=>by
  simp only[execF] at he;split at he
  ·(rename_i C1 s1 h1;split at he;·rename_i C2 s2 h2;cases he;refine wpListIn_step fun K hK=>?_;exact Hw hT hΓ h h1 hC.1 (fun a' w' h'=>hK _ _ (yy hT hΓ r h' h2 hC.2 hQ)));·cases he
  ·cases he
section
variable {X:Cx} {s s':aa} {K:Exit->aa->Prop}
theorem JN(hG:aV X.P X.T){id:Nat}{ops:Array Oper}{C:Prop}(fs:List Nat)(he:execF X.T fs ops.toList ops.toList s=some (C,s'))(hC:C)(hK:K .normal s'):J X (.region id ops false) s K:=by
 intro a w hst;have:=yy (Q:=post X K) hG.tab hG.cons ops.toList hst he hC (fun a' w' h'=>⟨_,hK,h'⟩);exact wpIn_region_list (by simpa using this)
theorem s_f{id:Nat}{ops:Array Oper}{c2:Code}{C:Prop}(fs:List Nat)(hG:aV X.P X.T)(hC:C)(hK:J X c2 s' K)(he:execF X.T fs ops.toList ops.toList s=some (C,s'):=by simp (maxSteps:=4000000) only[Go.Cm.execF,Go.Cm.stepF,hT,hX,Go.Cm.mx0,Go.Cm.mx1,Go.Cm.mx2,Go.Cm.mx3,Go.Cm.mx4,Go.Cm.mx5,Go.Cm.mx6,Go.Cm.effOp,Go.Cm.endCall,Go.Cm.callOp,Go.Cm.appendOp,Go.Cm.sliceLV,Go.Cm.Ty.fieldTy,Go.Cm.Ty.fieldOf,N8,AS,IT,N3,No,AT,N4,N5,reduceIte,reduceDIte,reduceCtorEq];rfl):J X (.seq (.region id ops false) c2) s K:=al (JN hG fs he hC (ag hK))
end
end Go.Cm
end
section
namespace Go.Cm
open Go.Proofs
theorem qh{K:Nat}(hK:1<=K):∀l:List Rat,(∀x∈l,lq x<=K)->Den (l.length*K+1) l
 | [],_=>nF (by omega)
 |a::l,h=>by
  obtain⟨D,d1,d2,d3⟩:=qh hK l fun x hx=>h x (OF _ hx);have ha:=h a (PE ..);have h1:=dy a;have h2:=ev a;have e:(a::l).length*K+1=l.length*K+1+K:=by rw[Oo,PS];omega
  refine⟨D*a.den,Pm d1 (fR a),by rw[e];have:=cd D a.den;omega,fun i=>?_⟩;cases i with
  |zero=>
   refine⟨a.num*D,by rw[e];have:=cd a.num D;omega,?_⟩;(have e1:cf (a::l) 0=a:=by simp[cf]);rw[e1,OP D,RO d1];exact(Ps a).symm
  |succ i=>
   obtain⟨n,n1,n2⟩:=d3 i;refine⟨n*a.den,by rw[e];have:=cd n a.den;omega,?_⟩;(have e1:cf (a::l) (i+1)=cf l i:=by simp[cf]);rw[e1,n2,RO (fR a)]
theorem LI{l:List Rat}{n K:Nat}(hn:l.length<=n)(ht:Trm l)(hK:1<=K)(h:∀x∈l,lq x<=K):Sml n (n*K+1) l:=
 ⟨hn,ht,(qh hK l h).mono (by have:=Oc K hn;omega)⟩
theorem JO{n b m c:Nat}{l q:List Rat}(hl:Sml n b l)(hq:Sml m c q)(pl:Pol l)(pq:Pol q)(hb:(max b c+1)*(n+2)*3^m<=QD):Hr sf b6 (txP l) (txP q)/\sf (aw l) (aw q)/\Den ((max b c+1)*(n+2)*3^m) (b6 l q):=by
 have e1:QD=10000000000:=rfl;have e2:QC=100000000000:=rfl;have e3:QL=1000000000:=rfl;have hll:=hl.len;have hlq:=hq.len;have pl1:=pl.len;have pq1:=pq.len;have hbd:(max b c+1)*(l.length+1-q.length+1)*3^q.length<=QD:=by
  refine Og (Rp (Rp (Oa _) (by omega:_<=n+2)) (PA (by omega) hlq)) hb
 obtain⟨g1,g2⟩:=Lz (p:=aw l) (q:=aw q) (b:=max b c) (fS _) (fS _) (by rw[aA];exact hl.den.mono (by omega)) (by rw[aA];exact hq.den.mono (by omega)) (by rw[aq];omega) (by rw[aq];omega) (by rw[aA];exact hl.trm) (by rw[aA];exact hq.trm) (by rw[aq,aq];exact hbd);rw[aA,aA,aq,aq] at g2;have g2:=g2.mono (Oa _);refine⟨Hu pl pq g1 (fun x hx=>by have:=g2.lq x hx;omega) ?_,g1,g2.mono (Rp (Rp (Oa _) (by omega:_<=n+2)) (PA (by omega) hlq))⟩;have key:∀(k:Nat) (a b:List Rat),a.length<=900->b.length<=900->Trm b->(df k a b).length<=900:=by
  intro k;induction k with
  |zero=>intro a b ha _ _;rw[df,bI];exact ha
  |succ k ih=>
   intro a b ha hb tb;rw[df];split;·rw[bI];exact ha
   ·rename_i hne;by_cases hta:Trm a;·have:=dk (p:=a) (By.2 hne) (tb hne);exact ih _ _ hb (by rw[bI];omega) (dJ (du hta))
    ·have h3:=dk (p:=a) (By.2 hne) (tb hne);have:∀(k:Nat) (a b:List Rat),a.length<=900->b.length<=900->(df k a b).length<=900:=by
      intro k;induction k with
      |zero=>intro a b ha _;rw[df,bI];exact ha
      |succ k ih2=>
       intro a b ha hb;rw[df];split;·rw[bI];exact ha
       ·refine ih2 _ _ hb ?_;rw[bI];have hlen:∀(q:List Rat) (n:Nat) (r s:List Rat),(eW q n r s).2.length<=r.length:=by
         intro q n;induction n with
         |zero=>intro r s;exact Oa _
         |succ n ih3=>
          (intro r s;rw[eW];split;·have h5:=ih3 (br (cp q r)) (s.set (r.length-q.length) (ao r/ao q));have h6:=jG (cp q r);rw[eL] at h6;omega);·exact Oa _
        have:=hlen b (a.length+1) a (N6 (a.length+1-b.length) 0);unfold divN;omega
     exact this _ _ _ hb (by rw[bI];omega)
 have:=key (q.length+1) l q (by omega) (by omega) hq.trm;unfold b6;omega
theorem gE(l:List Rat):(a7 l).length=l.length-1:=by unfold a7 kY;simp
theorem LJ{l:List Rat}{i:Nat}(h:i<l.length-1):cf (a7 l) i=cf l (i+1)*((i+1:Nat):Rat):=by
 unfold a7 kY;conv=>lhs;unfold cf
 rw[sh,Pp,R6 h];show cf l (i+1)*Ox ((i+1:Nat):Int) 1=_;rw[Qf,SN];rw[show ((1:Int):Rat)=1 from rfl];grind
theorem lO{l:List Rat}(h:Trm l):Trm (a7 l):=by
 intro hn;have h1:=By.2 hn;rw[gE] at h1;have h2:l≠[]:=fun e=>by rw[e] at h1;simp at h1
 have h3:=h h2;rw[bR (by omega)] at h3;rw[bR (by rw[gE];omega),gE,LJ (by omega),show l.length-1-1+1=l.length-1 by omega];have h4:((l.length-1:Nat):Rat)≠0:=by
  intro e;have:(l.length-1:Nat)=0:=by exact_mod_cast e
  omega
 intro e;rcases P7.1 e with e|e;·exact h3 e
 ·exact h4 e
theorem Sml.der{n b:Nat}{l:List Rat}(h:Sml n b l)(hn:n<1000000000):Sml (n-1) (b+1) (a7 l):=
 ⟨by rw[gE];have:=h.len;omega,lO h.trm,JI h.den (by have:=h.len;omega)⟩
theorem u0:∀(n:Nat) (p q:List Rat),Trm p->Trm q->Trm (df n p q)
 |0,p,q,tp,tq=>by rw[df];exact dJ tp
 |n+1,p,q,tp,tq=>by
  rw[df];split;·exact dJ tp
  ·exact u0 n _ _ tq (dJ (du tp))
theorem sC{p q:List Rat}(tp:Trm p)(tq:Trm q):Trm (b6 p q):=u0 _ _ _ tp tq
theorem sD(q:List Rat):∀(n:Nat) (r s:List Rat),(eW q n r s).2.length<=r.length
 |0,r,s=>Oa _
 |n+1,r,s=>by
  rw[eW];split;·have h5:=sD q n (br (cp q r)) (s.set (r.length-q.length) (ao r/ao q));have h6:=jG (cp q r);rw[eL] at h6;omega
  ·exact Oa _
theorem u7:∀(n:Nat) (p q:List Rat),(df n p q).length<=max p.length q.length
 |0,p,q=>by rw[df,bI];omega
 |n+1,p,q=>by
  rw[df];split;·rw[bI];omega
  ·have h1:=u7 n q (bk (divN p q).2);have h2:=sD q (p.length+1) p (N6 (p.length+1-q.length) 0);rw[bI] at h1;unfold divN at h1 ⊢;omega
theorem yz(p q:List Rat):(b6 p q).length<=max p.length q.length:=u7 _ _ _
theorem jJ{l:List Rat}:bk l=[]↔l=[]:=by
 unfold bk;simp
theorem u9:∀(n:Nat) (p q:List Rat),q.length<n->(p≠[]∨q≠[])->df n p q≠[]
 |0,p,q,h,_=>absurd h (by omega)
 |n+1,p,q,h,hne=>by
  rw[df];split
  ·(rename_i hq;intro e;rw[jJ] at e;rcases hne with h1|h1;·exact h1 e);·exact h1 hq
  ·rename_i hq;by_cases ht:(bk (divN p q).2).length<n;·exact u9 n _ _ ht (.inl hq)
   ·
    have key:∀(k:Nat) (a b:List Rat),a≠[]->df k a b≠[]:=by
     intro k;induction k with
     |zero=>intro a b ha e;rw[df,jJ] at e;exact ha e
     |succ k ih=>
      (intro a b ha;rw[df];split;·intro e;rw[jJ] at e;exact ha e);·rename_i hb;exact ih _ _ hb
    exact key n _ _ hq
theorem qk{p q:List Rat}(h:p≠[]∨q≠[]):b6 p q≠[]:=u9 _ _ _ (RZ _) h
theorem LK{n b c:Nat}{l:List Rat}(hl:Sml n b l)(pl:Pol l)(hg:sf (aw l) (aw (a7 l)))(dg:Den c (b6 l (a7 l)))(hK:b+(n+1)*(c+1)<=QD):pM (aw l)/\(∀x∈(divN l (b6 l (a7 l))).1,lq x<=QD):=by
 have e1:QD=10000000000:=rfl;have e2:QH=40000000000:=rfl;have hll:=hl.len;have pl1:=pl.len;have hcK:c<=QD:=by
  have:1*(c+1)<=(n+1)*(c+1):=Oc _ (by omega);omega
 have hgl:=yz l (a7 l);rw[gE] at hgl;have tg:=sC hl.trm (lO hl.trm);have hq1:l≠[]->∀x∈(divN l (b6 l (a7 l))).1,lq x<=QD:=by
  intro h;have hbd:b+(l.length+1-(b6 l (a7 l)).length)*(c+1)<=QD:=by
   have:(l.length+1-(b6 l (a7 l)).length)*(c+1)<=(n+1)*(c+1):=Oc _ (by omega);omega
  exact(qg hl.den dg (qk (.inl h)) tg hbd (by omega)).1
 refine⟨fun hne=>?_,?_⟩
 ·have h:l≠[]:=fun e=>hne (by rw[e];rfl);rw[aA,aq];have hgn:=qk (q:=a7 l) (.inl h);have hbd:b+(l.length+1-(b6 l (a7 l)).length)*(c+1)<=QD:=by
   have:(l.length+1-(b6 l (a7 l)).length)*(c+1)<=(n+1)*(c+1):=Oc _ (by omega);omega
  refine⟨pl.enc_ok (by omega),by omega,hg,AD (b:=b) (c:=c) (fS _) (fS _) (by rw[aA];exact hl.den) (by rw[aA];exact dg) (by rw[aq];omega) (by rw[aq];omega) (by rw[aq];exact By.2 hgn) (by rw[aA];exact tg) (by rw[aq,aq];exact hbd) hcK,?_⟩;refine⟨gT fun x hx=>by have:=hq1 h x hx;omega,by rw[aq,jI];omega,fun hq=>?_⟩;rw[aA];have hlen:=jI l (b6 l (a7 l));have hsn:(divN l (b6 l (a7 l))).1≠[]:=fun e=>hq (by rw[e];rfl);have hgp:=By.2 hgn;have hlong:(b6 l (a7 l)).length<=l.length:=by omega
  intro h0;have hev:∀x,ae (br (divN l (b6 l (a7 l))).1) x*ae (b6 l (a7 l)) x+ae (divN l (b6 l (a7 l))).2 x=ae l x:=fun x=>by rw[fg];exact qd hgn tg x
  have hmul:ct (· + ·) (bx (br (divN l (b6 l (a7 l))).1) (b6 l (a7 l))) (divN l (b6 l (a7 l))).2=l:=iI (fF _ _ _) hl.trm fun x=>by rw[fT,aL];exact hev x
  have hs:=dk (p:=l) hgp (tg hgn);have h1:=jH (· + ·) (bx (br (divN l (b6 l (a7 l))).1) (b6 l (a7 l))) (divN l (b6 l (a7 l))).2;rw[hmul] at h1;have h2:=pK (l:=(divN l (b6 l (a7 l))).1) (By.2 hsn) h0;by_cases hz:br (divN l (b6 l (a7 l))).1=[];·rw[hz,fq] at h1;simp only[OO] at h1;omega
  ·rw[cm hz hgn] at h1;omega
 ·intro x hx;by_cases h:l=[];·subst h;(have e0:(divN [] (b6 [] (a7 []))).1=[0]:=by decide+kernel);rw[e0,Ph] at hx;rw[hx];exact Og ig (by omega)
  ·exact hq1 h x hx
def smB(n K:Nat)(p:List (List UInt8)):Bool:=decide (dx p=0)&&decide (p.length<=n)&&p.all (fun q=>decide (q.length<=10000))&&(dt p).all fun x=>decide (lq x<=K)
theorem LL{n K:Nat}{p:List (List UInt8)}(h:smB n K p=true)(hn:n<=41)(hK:1<=K):Pol (dt p)/\txP (dt p)=p/\Sml n (n*K+1) (dt p):=by
 unfold smB at h;simp only[N9,decide_eq_true_iff,Ob] at h;obtain⟨⟨⟨h1,h2⟩,h3⟩,h4⟩:=h;have hs:cQ p:=⟨by unfold QL;omega,fun q hq=>by have:=h3 q hq;unfold QL;omega⟩;obtain⟨t1,t2,t3,t4⟩:=JK hs h1;have hl:(dt p).length=p.length:=by rw[<- t1,wI,t1]
 exact⟨⟨t2,t3,t4⟩,t1,LI (by omega) t3 hK h4⟩
theorem JP{l:List Rat}{n b:Nat}(h:Sml n b l)(hn:n<=41)(hb:b<=220):Pol (a7 l):=(h.der (by omega)).pol (by omega) (by omega)
end Go.Cm
end
section
namespace Go.Cm
open Go.Proofs
def dh(f:Nat->Rat):Nat->Rat
 |0=>0
 |n+1=>dh f n+f n
theorem eN{f g:Nat->Rat}:∀n,(∀i,i<n->f i=g i)->dh f n=dh g n
 |0,_=>rfl
 |n+1,h=>by rw[dh,dh,eN n fun i hi=>h i (by omega),h n (by omega)]
theorem B8(p q:List Rat)(hq:0<q.length)(n:Nat):∀i,i<=p.length->cf (mulN p q i) n=dh (fun k=>if k<=n then cf p k*cf q (n-k) else 0) i
 |0,_=>by
  rw[mulN,dh];unfold cf;rw[sh,Qo];split<;>rfl
 |i+1,h=>by
  rw[mulN,jc _ _ _ _ _ _ (by rw[ea];omega),dh,<- B8 p q hq n i (by omega)];by_cases h1:i<=n/\n<i+q.length;·rw[if_pos h1,if_pos h1.1]
  ·(rw[if_neg h1];by_cases h2:i<=n;·rw[if_pos h2,bE (l:=q) (by omega)];grind);·rw[if_neg h2];grind
theorem JQ(p q:List Rat)(n:Nat):cf (bx p q) n=dh (fun k=>if k<=n then cf p k*cf q (n-k) else 0) p.length:=by
 by_cases hp:p=[]
 ·subst hp;rw[fq];rfl
 by_cases hq:q=[]
 ·subst hq;rw[dz,bE (by simp)];have:∀m,dh (fun k=>if k<=n then cf p k*cf [] (n-k) else 0) m=0:=by
   intro m;induction m with
   |zero=>rfl
   |succ m ih=>
    (rw[dh,ih];split;·rw[bE (l:=[]) (by simp)];grind);·grind
  exact(this _).symm
 ·rw[qb hp hq,B8 p q (By.2 hq) n _ (Oa _)]
def Prm(P:Int):Prop:=1<P/\∀a b:Int,P∣a*b->P∣a∨P∣b
theorem LM{K:Nat}(h:1<K):∃P:Int,Prm P/\P∣(K:Int):=by
 have hex:∃d,1<d/\d∣K:=⟨K,h,Nat.dvd_refl K⟩;obtain⟨d,⟨h1,h2⟩,hmin⟩:∃d,(1<d/\d∣K)/\∀e,e<d-> ¬(1<e/\e∣K):=by
  have key:∀n,(∃d,d<=n/\1<d/\d∣K)->∃d,(1<d/\d∣K)/\∀e,e<d-> ¬(1<e/\e∣K):=by
   intro n;induction n with
   |zero=>rintro⟨d,hd,h1,_⟩;omega
   |succ n ih=>
    (rintro⟨d,hd,h1,h2⟩;by_cases hl:∃d,d<=n/\1<d/\d∣K;·exact ih hl);·exact⟨d,⟨h1,h2⟩,fun e he hc=>hl ⟨e,by omega,hc⟩⟩
  exact key K ⟨K,Oa K,h,Nat.dvd_refl K⟩
 refine⟨(d:Int),⟨by omega,fun a b hab=>?_⟩,Int.natCast_dvd_natCast.2 h2⟩;by_cases ha:(d:Int)∣a;·exact .inl ha
 ·right;have hab':d∣a.natAbs*b.natAbs:=by
   have:=Ss.2 hab;rwa [QI,RL] at this
  have hg:RG d a.natAbs=1:=by
   have g1:RG d a.natAbs∣d:=Nat.gcd_dvd_left _ _;have g2:RG d a.natAbs∣a.natAbs:=Nat.gcd_dvd_right _ _;have g3:0<RG d a.natAbs:=Nat.gcd_pos_of_pos_left _ (by omega);by_cases hlt:RG d a.natAbs<d
   ·(have:=hmin _ hlt;by_cases h1g:1<RG d a.natAbs;·exact absurd ⟨h1g,Nat.dvd_trans g1 h2⟩ this);·omega
   ·exfalso;(have e:RG d a.natAbs=d:=by have:=Nat.le_of_dvd (by omega) g1;omega);rw[e] at g2;exact ha (Ss.1 (by rwa [QI]))
  have hcop:Nat.Coprime d a.natAbs:=hg;have:=hcop.dvd_of_dvd_mul_left hab';exact Ss.1 (by rwa [QI])
def l5(f:Nat->Int):Nat->Int
 |0=>0
 |n+1=>l5 f n+f n
def conv(M S:Nat->Int)(n:Nat):Int:=l5 (fun k=>M k*S (n-k)) (n+1)
theorem yA{P:Int}{f:Nat->Int}:∀n,(∀i,i<n->P∣f i)->P∣l5 f n
 |0,_=>⟨0,by rw[l5];simp⟩
 |n+1,h=>Int.dvd_add (yA n fun i hi=>h i (by omega)) (h n (by omega))
theorem yB{P:Int}{f:Nat->Int}{i0:Nat}:∀n,i0<n->(∀i,i<n->i≠i0->P∣f i)->P∣l5 f n->P∣f i0
 |0,h,_,_=>absurd h (by omega)
 |n+1,h,hd,hs=>by
  rw[l5] at hs;by_cases e:i0=n;·subst e;have h1:P∣l5 f i0:=yA _ fun i hi=>hd i (by omega) (by omega);exact(Int.dvd_add_right h1).1 hs
  ·have h1:=hd n (by omega) (fun e2=>e e2.symm);exact yB n (by omega) (fun i hi hne=>hd i (by omega) hne) ((Int.dvd_add_left h1).1 hs)
theorem vc{p:Nat->Prop}(h:¬ ∀i,p i):∃i,¬p i/\∀j,j<i->p j:=by
 obtain⟨n,hn⟩:=Classical.not_forall.1 h;have key:∀n,(∃i,i<=n/\ ¬p i)->∃i,¬p i/\∀j,j<i->p j:=by
  intro n;induction n with
  |zero=>rintro⟨i,hi,h⟩;exact⟨i,h,fun j hj=>by omega⟩
  |succ n ih=>
   (rintro⟨i,hi,h⟩;by_cases hl:∃i,i<=n/\ ¬p i;·exact ih hl);·exact⟨i,h,fun j hj=>Classical.not_not.1 fun e=>hl ⟨j,by omega,e⟩⟩
 exact key n ⟨n,Oa n,hn⟩
theorem Nl{P:Int}(hP:Prm P){M S:Nat->Int}(h:∀n,P∣conv M S n):(∀i,P∣M i)∨∀i,P∣S i:=by
 by_cases hM:∀i,P∣M i
 ·exact .inl hM
 by_cases hS:∀i,P∣S i
 ·exact .inr hS
 exfalso;obtain⟨i0,a1,a2⟩:=vc hM;obtain⟨j0,b1,b2⟩:=vc hS;have h1:=h (i0+j0);unfold conv at h1
 have h2:=yB (i0:=i0) (i0+j0+1) (by omega) (fun i hi hne=>by
  by_cases hl:i<i0
  ·obtain⟨c,hc⟩:=a2 i hl;exact⟨c*S (i0+j0-i),by rw[hc];grind⟩
  ·obtain⟨c,hc⟩:=b2 (i0+j0-i) (by omega);exact⟨M i*c,by rw[hc];grind⟩) h1
 simp only[show i0+j0-i0=j0 by omega] at h2;rcases hP.2 _ _ h2 with h3|h3;·exact a1 h3
 ·exact b1 h3
def sE(M:Nat->Int):Prop:=∀P,Prm P-> ¬ ∀i,P∣M i
theorem yC(c:Int)(f:Nat->Int):∀n,l5 (fun k=>c*f k) n=c*l5 f n
 |0=>by simp[l5]
 |n+1=>by rw[l5,l5,yC c f n];grind
theorem mD(c:Int)(M S:Nat->Int)(n:Nat):conv M (fun i=>c*S i) n=c*conv M S n:=by
 unfold conv
 rw[<- yC];congr 1;funext k;grind
theorem yD{M:Nat->Int}(hM:sE M):∀(K:Nat),0<K->∀(S A:Nat->Int),(∀n,conv M S n=(K:Int)*A n)->∃T:Nat->Int,(∀n,conv M T n=A n)/\∀i,(K:Int)*T i=S i:=by
 intro K;induction K using Nat.strongRecOn with
 |ind K ih=>
  intro hK S A h;by_cases h1:K=1;·subst h1;exact⟨S,fun n=>by rw[h];simp,fun i=>by simp⟩
  ·obtain⟨P,hP,hd⟩:=LM (show 1<K by omega);have hS:∀i,P∣S i:=by
    (rcases Nl hP (fun n=>by rw[h];exact Int.dvd_trans hd (Int.dvd_mul_right _ _)) with h2|h2;·exact absurd h2 (hM P hP));·exact h2
   obtain⟨c,hc⟩:=hd;(have hP0:P≠0:=by have:=hP.1;omega);have hcp:0<c:=by
    (have:0<P*c:=by omega);exact Int.pos_of_mul_pos_right this (by have:=hP.1;omega)|>fun h=>h
   have hcK:c.toNat<K:=by
    have h4:c<P*c:=by
     have:=Qp hP.1 hcp;omega
    omega
   suffices hT:∃T:Nat->Int,(∀n,conv M T n=A n)/\∀i,(c.toNat:Int)*T i=S i/P by
    obtain⟨T,t1,t2⟩:=hT;refine⟨T,t1,fun i=>?_⟩;have t3:=t2 i;rw[OL (by omega)] at t3;rw[hc,Int.mul_assoc,t3];exact RP (hS i)
   refine ih c.toNat hcK (by omega) (fun i=>S i/P) A fun n=>?_;have h5:conv M (fun i=>P*(S i/P)) n=conv M S n:=by
    congr 1;funext i;exact RP (hS i)
   rw[mD,h,hc] at h5;(have h6:P*conv M (fun i=>S i/P) n=P*(c*A n):=by rw[h5];grind);have h7:=Int.eq_of_mul_eq_mul_left hP0 h6;rw[h7,OL (by omega)]
end Go.Cm
namespace Go.Cm
open Go.Proofs
theorem JR{n:Int}{D:Int}:Ox n D*(D:Rat)=(n:Rat)∨D=0:=by
 by_cases h:D=0
 ·exact .inr h
 ·left;rw[Qf];have:(D:Rat)≠0:=by simpa using h
  grind
theorem wK{b:Nat}{l:List Rat}(h:Den b l):∃(D:Int) (A:Nat->Int),D≠0/\lw D<=b/\(∀i,lw (A i)<=b)/\∀i,cf l i*(D:Rat)=(A i:Rat):=by
 obtain⟨D,d1,d2,d3⟩:=h;refine⟨D,fun i=>Classical.choose (d3 i),d1,d2,fun i=>(Classical.choose_spec (d3 i)).1,fun i=>?_⟩;rw[(Classical.choose_spec (d3 i)).2];rcases JR (n:=Classical.choose (d3 i)) (D:=D) with h|h;·exact h
 ·exact absurd h d1
theorem ve(f:Nat->Int)(g:Nat->Rat):∀n,(∀i,i<n->g i=(f i:Rat))->dh g n=(l5 f n:Rat)
 |0,_=>by simp[dh,l5]
 |n+1,h=>by rw[dh,l5,ve f g n fun i hi=>h i (by omega),h n (by omega)];simp
theorem nG(c:Rat)(f:Nat->Rat):∀n,dh (fun k=>c*f k) n=c*dh f n
 |0=>by simp[dh]
 |n+1=>by rw[dh,dh,nG c f n];grind
theorem lP(f:Nat->Rat){n:Nat}:∀m,n<=m->(∀i,n<=i->f i=0)->dh f m=dh f n
 |0,h,_=>by rw[show n=0 by omega]
 |m+1,h,h0=>by
  by_cases e:n=m+1
  ·rw[e]
  ·rw[dh,lP f m (by omega) h0,h0 m (by omega)];grind
theorem EJ(p q:List Rat)(n:Nat):cf (bx p q) n=dh (fun k=>cf p k*cf q (n-k)) (n+1):=by
 rw[JQ];have e1:dh (fun k=>if k<=n then cf p k*cf q (n-k) else 0) p.length=dh (fun k=>if k<=n then cf p k*cf q (n-k) else 0) (max p.length (n+1)):=by
  refine(lP _ _ (by omega) fun i hi=>?_).symm;rw[bE (l:=p) hi];split<;>grind
 have e2:dh (fun k=>if k<=n then cf p k*cf q (n-k) else 0) (n+1)=dh (fun k=>if k<=n then cf p k*cf q (n-k) else 0) (max p.length (n+1)):=by
  refine(lP _ _ (by omega) fun i hi=>?_).symm;rw[if_neg (by omega)]
 rw[e1,<- e2];exact eN _ fun i hi=>by rw[if_pos (by omega)]
theorem JS{m:List Rat}(hm:m≠[])(tm:Trm m):∃(c:Rat) (M:Nat->Int),c≠0/\sE M/\∀i,cf m i*c=(M i:Rat):=by
 have hp:=By.2 hm;have hl:=tm hm;rw[bR hp] at hl;have hK:∃K,1<=K/\∀x∈m,Cm.lq x<=K:=by
  refine⟨m.foldr (fun x k=>max (lq x) k) 1,?_,?_⟩
  ·clear hm tm hp hl;induction m with
   |nil=>simp
   |cons x l ih=>simp only[SI];omega
  ·clear hm tm hp hl;induction m with
   |nil=>simp
   |cons x l ih=>
    (intro y hy;simp only[SI];rcases IS.1 hy with rfl|hy;·omega);·have:=ih y hy;omega
 obtain⟨K,k1,k2⟩:=hK;obtain⟨D,A,d1,_,_,d4⟩:=wK (qh k1 m k2);have hD:(D:Rat)≠0:=by simpa using d1
 have key:∀(N:Nat) (c:Rat) (A:Nat->Int),c≠0->(∀i,cf m i*c=(A i:Rat))->(A (m.length-1)).natAbs<=N->∃(c:Rat) (M:Nat->Int),c≠0/\sE M/\∀i,cf m i*c=(M i:Rat):=by
  intro N;induction N with
  |zero=>
   (intro c A hc hA h0;exfalso;have h1:=hA (m.length-1);rw[show A (m.length-1)=0 by omega] at h1;rcases P7.1 h1 with h2|h2;·exact hl h2);·exact hc h2
  |succ N ih=>
   intro c A hc hA hN;by_cases hP:sE A;·exact⟨c,A,hc,hP,hA⟩
   ·obtain⟨P,h1⟩:=Classical.not_forall.1 hP;have h2:Prm P/\∀i,P∣A i:=by
     (constructor;·exact Classical.not_not.1 fun e=>h1 fun h=>absurd h e);·exact Classical.not_not.1 fun e=>h1 fun _=>e
    obtain⟨h2,h3⟩:=h2;(have hP0:P≠0:=by have:=h2.1;omega);(have hPr:(P:Rat)≠0:=by simpa using hP0);refine ih (c/P) (fun i=>A i/P) (by intro e;exact hc (by grind)) (fun i=>?_) ?_;·have h4:P*(A i/P)=A i:=RP (h3 i);(have h5:(P:Rat)*((A i/P:Int):Rat)=(A i:Rat):=by rw[<- PG,h4]);have h6:=hA i;(have h7:cf m i*(c/P)*P=((A i/P:Int):Rat)*P:=by grind);grind
    ·have hne:A (m.length-1)≠0:=by
      (intro e;have h8:=hA (m.length-1);rw[e] at h8;rcases P7.1 h8 with h9|h9;·exact hl h9);·exact hc h9
     have h4:P*(A (m.length-1)/P)=A (m.length-1):=RP (h3 _);(have h5:P.natAbs*(A (m.length-1)/P).natAbs=(A (m.length-1)).natAbs:=by rw[<- RL,h4]);(have h6:2<=P.natAbs:=by have:=h2.1;omega);have h7:2*(A (m.length-1)/P).natAbs<=P.natAbs*(A (m.length-1)/P).natAbs:=Oc _ h6;show (A (m.length-1)/P).natAbs<=N;omega
 exact key _ (D:Rat) A hD d4 (Oa _)
theorem EK{m s a:List Rat}(ha:bx m s=a){c:Rat}{M:Nat->Int}(hc:c≠0)(hM:sE M)(hm:∀i,cf m i*c=(M i:Rat)){D:Int}(hD:D≠0){A:Nat->Int}(hA:∀i,cf a i*(D:Rat)=(A i:Rat)):∃T:Nat->Int,∀i,cf s i*(D:Rat)=c*(T i:Rat):=by
 have hK:∃K,1<=K/\∀x∈s,Cm.lq x<=K:=by
  refine⟨s.foldr (fun x k=>max (lq x) k) 1,?_,?_⟩
  ·clear ha;induction s with
   |nil=>simp
   |cons x l ih=>simp only[SI];omega
  ·clear ha;induction s with
   |nil=>simp
   |cons x l ih=>
    (intro y hy;simp only[SI];rcases IS.1 hy with rfl|hy;·omega);·have:=ih y hy;omega
 obtain⟨K,k1,k2⟩:=hK;obtain⟨E,S,e1,_,_,e4⟩:=wK (qh k1 s k2);have h1:∀n,(conv M S n:Rat)=cf a n*(c*E):=by
  intro n;have h2:dh (fun k=>cf m k*c*(cf s (n-k)*E)) (n+1)=((l5 (fun k=>M k*S (n-k)) (n+1):Int):Rat):=ve (fun k=>M k*S (n-k)) _ _ fun i _=>by rw[hm,e4,PG]
  have h3:dh (fun k=>cf m k*c*(cf s (n-k)*E)) (n+1)=(c*E)*dh (fun k=>cf m k*cf s (n-k)) (n+1):=by
   rw[<- nG];exact eN _ fun i _=>by grind
  rw[<- EJ,ha] at h3;unfold conv
  rw[<- h2,h3];grind
 have hE:(E:Rat)≠0:=by simpa using e1
 have hDr:(D:Rat)≠0:=by simpa using hD
 have hv:=fR c;have hu:=An hc;have h4:∀n,conv M (fun i=>(D*c.den)*S i) n=(c.num*E)*A n:=by
  intro n;rw[mD];have h5:(((D*c.den)*conv M S n:Int):Rat)=(((c.num*E)*A n:Int):Rat):=by
   rw[PG,PG,PG,PG,h1,<- hA];have h6:c*((c.den:Int):Rat)=(c.num:Rat):=by
    (have:=Ps c;rw[Qf] at this;(have hvr:((c.den:Int):Rat)≠0:=by simpa using hv);conv=>lhs;arg 1;rw[<- this]);grind
   rw[<- h6];grind
  exact_mod_cast h5
 have hKE:c.num*E≠0:=Pm hu e1;have h6:c*((c.den:Int):Rat)=(c.num:Rat):=by
  have:=Ps c;rw[Qf] at this;have hvr:((c.den:Int):Rat)≠0:=by simpa using hv
  conv=>lhs;arg 1;rw[<- this]
  grind
 have hvr:((c.den:Int):Rat)≠0:=by simpa using hv
 have fin:∀T:Nat->Int,(∀i,(c.num*E)*T i=(D*c.den)*S i)->∀i,cf s i*(D:Rat)=c*(T i:Rat):=by
  intro T hT i;have h7:(((c.num*E)*T i:Int):Rat)=(((D*c.den)*S i:Int):Rat):=by rw[hT]
  rw[PG,PG,PG,PG,<- e4 i,<- h6] at h7;have h8:((c.den:Int):Rat)*(E:Rat)*(cf s i*(D:Rat)-c*(T i:Rat))=0:=by grind
  rcases P7.1 h8 with h9|h9
  ·(rcases P7.1 h9 with h10|h10;·exact absurd h10 hvr);·exact absurd h10 hE
  ·grind
 by_cases hpos:0<c.num*E
 ·obtain⟨T,_,t2⟩:=yD hM (c.num*E).toNat (by omega) _ A fun n=>by rw[h4 n,OL (by omega)]
  refine⟨T,fin T fun i=>?_⟩;have:=t2 i;rwa [OL (by omega)] at this
 ·obtain⟨T,_,t2⟩:=yD hM (-(c.num*E)).toNat (by omega) (fun i=>(-1)*((D*c.den)*S i)) A fun n=>by
   rw[mD (-1) M (fun i=>(D*c.den)*S i),h4 n,OL (by omega)];grind
  refine⟨T,fin T fun i=>?_⟩;have:=t2 i;rw[OL (by omega)] at this;grind
end Go.Cm
end
section
namespace Go.Cm
open Go.Proofs
def sdQ(x0:Rat):List Rat->List Rat
 | []=>[]
 |_:: []=>[]
 |_::a::l=>ae (a::l) x0::sdQ x0 (a::l)
theorem wL(x0:Rat):∀l:List Rat,(sdQ x0 l).length=l.length-1
 | []=>rfl
 | [_]=>rfl
 |c::a::l=>by
  have:=wL x0 (a::l);simp only[sdQ,Oo] at this ⊢;omega
theorem B9(x0 x:Rat):∀l:List Rat,ae l x-ae l x0=(x-x0)*ae (sdQ x0 l) x
 | []=>by simp only[sdQ,cr];grind
 | [c]=>by simp only[sdQ,dQ,cr];grind
 |c::a::l=>by
  have:=B9 x0 x (a::l);rw[cN c (a::l) x,cN c (a::l) x0,sdQ,cN (ae (a::l) x0)];grind
theorem wM(x0:Rat):∀l:List Rat,2<=l.length->ao (sdQ x0 l)=ao l
 | [],h=>by simp at h
 | [_],h=>by simp at h
 | [c,a],_=>by simp[sdQ,ao,ae];grind
 |c::a::b::l,_=>by
  have:=wM x0 (a::b::l) (by simp);have h2:sdQ x0 (a::b::l)≠[]:=by simp[sdQ]
  have e1:ao (sdQ x0 (c::a::b::l))=ao (sdQ x0 (a::b::l)):=by
   rw[sdQ];unfold ao;cases h3:sdQ x0 (a::b::l) with
   |nil=>exact absurd h3 h2
   |cons y m=>simp
  rw[e1,this];unfold ao;simp
theorem KP(x0:Rat):∀(l:List Rat) (i:Nat),cf l (i+1)=cf (sdQ x0 l) i-x0*cf (sdQ x0 l) (i+1)
 | [],i=>by simp only[sdQ];have:∀j,cf [] j=0:=fun j=>bE (by simp);simp only[this];grind
 | [c],i=>by simp only[sdQ];rw[bE (l:=[c]) (by simp),bE (l:=[]) (by simp),bE (l:=[]) (by simp)];grind
 |c::a::l,i=>by
  have e1:cf (c::a::l) (i+1)=cf (a::l) i:=by simp[cf]
  have e2:cf (sdQ x0 (c::a::l)) (i+1)=cf (sdQ x0 (a::l)) i:=by simp[sdQ,cf]
  rw[e1,e2];cases i with
  |zero=>
   (have e3:cf (sdQ x0 (c::a::l)) 0=ae (a::l) x0:=by simp[sdQ,cf]);(have e4:cf (a::l) 0=a:=by simp[cf]);rw[e3,e4,cN];cases l with
   |nil=>simp only[sdQ,cr];rw[bE (l:=[]) (by simp)];grind
   |cons b l=>
    (have e5:cf (sdQ x0 (a::b::l)) 0=ae (b::l) x0:=by simp[sdQ,cf]);rw[e5];grind
  |succ i=>
   (have e3:cf (sdQ x0 (c::a::l)) (i+1)=cf (sdQ x0 (a::l)) i:=by simp[sdQ,cf]);rw[e3];exact KP x0 (a::l) i
theorem LN(x0:Rat)(l:List Rat):cf l 0=ae l x0-x0*cf (sdQ x0 l) 0:=by
 match l with
 | []=>simp only[sdQ,cr];rw[bE (l:=[]) (by simp)];grind
 | [c]=>simp only[sdQ,dQ];rw[bE (l:=[]) (by simp)];simp[cf];grind
 |c::a::l=>
  have e1:cf (c::a::l) 0=c:=by simp[cf]
  have e2:cf (sdQ x0 (c::a::l)) 0=ae (a::l) x0:=by simp[sdQ,cf]
  rw[e1,e2,cN];grind
theorem vf:∀(n:Nat) (l:List Rat),l.length=n->l≠[]->Trm l->∀xs:List Nat,xs.Nodup->(∀x∈xs,ae l (x:Rat)=0)->xs.length<l.length
 |0,l,hn,h,_,_,_,_=>absurd (N7 hn) h
 |n+1,l,hn,h,t,xs,hd,hr=>by
  cases xs with
  |nil=>simp only[OO];omega
  |cons x0 xs=>
   have h0:=hr x0 (by simp);have hnd:=P6.1 hd;by_cases h1:l.length=1
   ·exfalso;match l,h1 with
    | [c],_=>
     rw[dQ] at h0;exact t (by simp) (by simpa [ao] using h0)
   ·(have h2:2<=l.length:=by omega);have hsl:=wL (x0:Rat) l;(have hsn:sdQ (x0:Rat) l≠[]:=fun e=>by rw[e] at hsl;simp at hsl;omega);(have hst:Trm (sdQ (x0:Rat) l):=fun _=>by rw[wM _ _ h2];exact t h);have:=vf n (sdQ (x0:Rat) l) (by omega) hsn hst xs hnd.2 fun x hx=>by
     have e:=B9 (x0:Rat) (x:Rat) l;rw[hr x (by simp[hx]),h0] at e;have hne:((x:Rat)-(x0:Rat))≠0:=by
      intro e2;(have:(x:Rat)=(x0:Rat):=by grind);(have:x=x0:=by exact_mod_cast this);exact hnd.1 (this▸hx)
     (have e3:((x:Rat)-(x0:Rat))*ae (sdQ (x0:Rat) l) x=0:=by grind);rcases P7.1 e3 with e4|e4;·exact absurd e4 hne
     ·exact e4
    simp only[Oo];omega
theorem JT(a b:Rat):(a+b).abs<=a.abs+b.abs:=by unfold Rat.abs;split<;>split<;>split<;>grind
theorem wN(a b:Rat):(a-b).abs<=a.abs+b.abs:=by unfold Rat.abs;split<;>split<;>split<;>grind
theorem nH(a b:Rat):(a*b).abs=a.abs*b.abs:=by
 by_cases ha:0<=a
 ·by_cases hb:0<=b
  ·rw[PC ha,PC hb,PC (Qy ha hb)]
  ·have:=Qy ha (show 0<= -b by grind);rw[PC ha,PX (by grind:b<=0),PX (by grind)];grind
 ·by_cases hb:0<=b
  ·have:=Qy (show 0<= -a by grind) hb;rw[PX (by grind:a<=0),PC hb,PX (by grind)];grind
  ·have:=Qy (show 0<= -a by grind) (show 0<= -b by grind);rw[PX (by grind:a<=0),PX (by grind:b<=0),PC (by grind)];grind
theorem Hx:∀(n:Nat) (l:List Rat) (B:Rat) (xs:List Nat),0<=B->l.length<=n->n<=xs.length->xs.Nodup->(∀x∈xs,x<=32)->(∀x∈xs,(ae l (x:Rat)).abs<=B)->∀i,(cf l i).abs<=(67:Rat)^n*B
 |0,l,B,xs,hB,hl,_,_,_,_,i=>by
  rw[bE (by omega),Tp,So];grind
 |n+1,l,B,xs,hB,hl,hx,hd,h32,hv,i=>by
  cases xs with
  |nil=>simp at hx
  |cons x0 xs=>
   have hnd:=P6.1 hd;have h0:=hv x0 (by simp);have hx0:=h32 x0 (by simp);(have hx0r:(x0:Rat)<=32:=by exact_mod_cast hx0);(have hx0p:(0:Rat)<=(x0:Rat):=by exact_mod_cast PM x0);have ih:=Hx n (sdQ (x0:Rat) l) (2*B) xs (by grind) (by rw[wL];omega) (by simpa using hx) hnd.2 (fun x hx=>h32 x (by simp[hx])) (fun x hx=>by
    have e:=B9 (x0:Rat) (x:Rat) l;have h1:=hv x (by simp[hx]);have h2:=wN (ae l (x:Rat)) (ae l (x0:Rat));rw[e,nH] at h2;have h3:(1:Rat)<=((x:Rat)-(x0:Rat)).abs:=by
     have hne:x≠x0:=fun e2=>hnd.1 (e2▸hx);rcases Nat.lt_or_gt_of_ne hne with h4|h4
     ·(have:(x:Rat)+1<=(x0:Rat):=by exact_mod_cast h4);rw[PX (by grind)];grind
     ·(have:(x0:Rat)+1<=(x:Rat):=by exact_mod_cast h4);rw[PC (by grind)];grind
    have h5:(0:Rat)<=(ae (sdQ (x0:Rat) l) (x:Rat)).abs:=S0;have h6:=Qb h3 h5;grind)
   have hp:(1:Rat)<=(67:Rat)^n:=by
    have:∀n:Nat,(1:Rat)<=(67:Rat)^n:=by
     intro n;induction n with
     |zero=>rw[So];grind
     |succ n ih=>rw[Qi];grind
    exact this n
   have hpB:B<=(67:Rat)^n*B:=by
    have:=Qb hp hB;grind
   have key:∀(u v:Rat),u.abs<=(67:Rat)^n*(2*B)->v.abs<=(67:Rat)^n*(2*B)->(u-(x0:Rat)*v).abs<=(67:Rat)^(n+1)*B-B:=by
    intro u v hu hv';have h1:=wN u ((x0:Rat)*v);rw[nH,PC hx0p] at h1;have h2:(x0:Rat)*v.abs<=32*((67:Rat)^n*(2*B)):=by
     have a1:=Qb hx0r (S0 (x:=v));have a2:=Pu hv' (show (0:Rat)<=32 by grind);grind
    rw[Qi];generalize (67:Rat)^n=w at*;grind
   cases i with
   |zero=>
    rw[LN (x0:Rat) l];have h1:=wN (ae l (x0:Rat)) ((x0:Rat)*cf (sdQ (x0:Rat) l) 0);have h2:=key 0 (cf (sdQ (x0:Rat) l) 0) (by rw[Tp];grind) (ih 0);have h3:((0:Rat)-(x0:Rat)*cf (sdQ (x0:Rat) l) 0).abs=((x0:Rat)*cf (sdQ (x0:Rat) l) 0).abs:=by
     rw[show (0:Rat)-(x0:Rat)*cf (sdQ (x0:Rat) l) 0= -((x0:Rat)*cf (sdQ (x0:Rat) l) 0) by grind,Rat.abs_neg]
    grind
   |succ i=>
    rw[KP (x0:Rat) l i];have:=key _ _ (ih i) (ih (i+1));grind
def IsI(x:Rat):Prop:=∃n:Int,x=(n:Rat)
theorem Hy{l:List Rat}(h:∀c∈l,IsI c)(x:Nat):IsI (ae l (x:Rat)):=by
 induction l with
 |nil=>exact⟨0,by rw[cr];rfl⟩
 |cons c l ih=>
  obtain⟨a,ha⟩:=ih fun d hd=>h d (OF _ hd);obtain⟨b,hb⟩:=h c (PE ..);refine⟨a*(x:Int)+b,?_⟩;rw[cN,ha,hb,Tu,PG,SN]
theorem Hz{l:List Rat}{K:Rat}(hK:0<=K)(h:∀c∈l,c.abs<=K){x:Nat}(hx:x<=32):(ae l (x:Rat)).abs<=K*(33:Rat)^l.length:=by
 have hxr:(x:Rat)<=32:=by exact_mod_cast hx
 have hxp:(0:Rat)<=(x:Rat):=by exact_mod_cast PM x
 induction l with
 |nil=>rw[cr,Tp];simp;grind
 |cons c l ih=>
  have h1:=ih fun d hd=>h d (OF _ hd);have h2:=h c (PE ..);have hp:∀n:Nat,(1:Rat)<=(33:Rat)^n:=by
   intro n;induction n with
   |zero=>rw[So];grind
   |succ n ih=>rw[Qi];grind
  have h3:=hp l.length;have h4:K<=K*(33:Rat)^l.length:=by
   have:=Pu h3 hK;grind
  rw[cN,Oo,Qi];have h5:=JT (ae l (x:Rat)*(x:Rat)) c;rw[nH,PC hxp] at h5;have h6:=Pu hxr (S0 (x:=ae l (x:Rat)));generalize (33:Rat)^l.length=w at*;generalize (ae l (x:Rat)).abs=v at*;have h7:v*(x:Rat)<=(K*w)*32:=by grind
  grind
theorem wO(n:Int):(n:Rat).abs=((n.natAbs:Nat):Rat):=by
 by_cases h:0<=n
 ·rw[PC (by exact_mod_cast h)];have:n=(n.natAbs:Int):=by omega
  conv=>lhs;rw[this]
  rfl
 ·rw[PX (by exact_mod_cast (by omega:n<=0))];have: -n=(n.natAbs:Int):=by omega
  rw[<- Tv,this];rfl
theorem iJ(c:Rat)(l:List Rat)(i:Nat):cf (l.map fun x=>x*c) i=cf l i*c:=by
 unfold cf;simp only[sh,Pp];cases l[i]? with
 |none=>simp
 |some x=>rfl
theorem cH(c:Rat)(l:List Rat)(x:Rat):ae (l.map fun y=>y*c) x=ae l x*c:=by
 induction l with
 |nil=>simp only[Qv,cr];grind
 |cons a l ih=>simp only[O6,cN,ih];grind
theorem AK{l:List Rat}{y:Rat}(h:y∈l):∃i,i<l.length/\y=cf l i:=by
 obtain⟨i,hi,rfl⟩:=R8 h;refine⟨i,hi,?_⟩;unfold cf;rw[sh,AI hi];rfl
theorem sF(p:Nat->Bool):∀l:List Nat,(l.filter p).length+(l.filter fun x=> !p x).length=l.length
 | []=>rfl
 |a::l=>by
  have:=sF p l;cases h:p a<;>simp[h]<;>omega
theorem lbr(k:Nat):(((LB^k:Int)):Rat)=(1000000000:Rat)^k:=by
 induction k with
 |zero=>simp
 |succ k ih=>rw[OB,PG,ih,Qi];rfl
theorem yE{a m s:List Rat}{b:Nat}(ha:Sml 17 b a)(ha0:a≠[])(hm:bx m s=a)(tm:Trm m)(m1:ao m=1):Den (b+8) m:=by
 have hm0:m≠[]:=by rintro rfl;rw[fq] at hm;exact ha0 hm.symm
 have hs0:s≠[]:=by rintro rfl;rw[dz] at hm;exact ha0 hm.symm
 have hmp:=By.2 hm0;have hsp:=By.2 hs0;have hlen:m.length<=17:=by
  have:=cm hm0 hs0;rw[hm] at this;have:=ha.len;omega
 obtain⟨c,M,hc,hM,hMc⟩:=JS hm0 tm;obtain⟨D,A,hD,_,hAb,hA⟩:=wK ha.den;obtain⟨T,hT⟩:=EK hm hc hM hMc hD hA;have hDr:(D:Rat)≠0:=by simpa using hD
 have iL:∀y∈m.map (fun y=>y*c),IsI y:=by
  intro y hy;obtain⟨i,_,rfl⟩:=AK hy;exact⟨M i,by rw[iJ,hMc]⟩
 have iT:∀y∈s.map (fun y=>y*((D:Rat)/c)),IsI y:=by
  intro y hy;obtain⟨i,_,rfl⟩:=AK hy;refine⟨T i,?_⟩;rw[iJ];have:=hT i;grind
 have bA:∀y∈a.map (fun y=>y*(D:Rat)),y.abs<=(1000000000:Rat)^b:=by
  intro y hy;obtain⟨i,_,rfl⟩:=AK hy;rw[iJ,hA,wO,<- lbr];have:=B4 (hAb i);exact_mod_cast this
 have hroots:=vf a.length a rfl ha0 ha.trm ((Pa 33).filter fun x=>decide (ae a (x:Rat)=0)) (Th.filter _) (fun x hx=>by simpa using(Qh.1 hx).2);have hsum:=sF (fun x=>decide (ae a (x:Rat)=0)) (Pa 33);have hal:=ha.len;rw[Sg] at hsum;have hK:(0:Rat)<=(1000000000:Rat)^b:=S1 (by grind);have h33:(0:Rat)<=(33:Rat)^17:=S1 (by grind);have hbd:=Hx m.length (m.map fun y=>y*c) ((1000000000:Rat)^b*(33:Rat)^17) ((Pa 33).filter fun x=> !decide (ae a (x:Rat)=0)) (Qy hK h33) (by simp) (by omega) (Th.filter _)
  (fun x hx=>by have:=OJ.1 (Qh.1 hx).1;omega) (fun x hx=>by
   (have hx32:x<=32:=by have:=OJ.1 (Qh.1 hx).1;omega);(have hne:ae a (x:Rat)≠0:=by simpa using(Qh.1 hx).2);obtain⟨u,hu⟩:=Hy iL x;obtain⟨v,hv⟩:=Hy iT x;have e1:(u:Rat)*(v:Rat)=ae (a.map fun y=>y*(D:Rat)) (x:Rat):=by
    rw[<- hu,<- hv,cH,cH,cH,<- hm,aL];grind
   have hv0:v≠0:=by
    (rintro rfl;rw[cH] at e1;(have:ae a (x:Rat)*(D:Rat)=0:=by rw[<- e1];simp);rcases P7.1 this with h|h;·exact hne h);·exact hDr h
   have h1:=Hz hK bA hx32;rw[<- e1,nH] at h1;have h2:(1:Rat)<=(v:Rat).abs:=by
    rw[wO];(have:1<=v.natAbs:=by omega);exact_mod_cast this
   have h3:=Pu h2 (S0 (x:=(u:Rat)));have h4:(33:Rat)^(a.map fun y=>y*(D:Rat)).length<=(33:Rat)^17:=by
    have hmono:∀(n k:Nat),n<=k->(33:Rat)^n<=(33:Rat)^k:=by
     intro n k hnk;induction k with
     |zero=>rw[show n=0 by omega];grind
     |succ k ih=>
      by_cases e:n=k+1
      ·rw[e];grind
      ·have:=ih (by omega);have hp:(0:Rat)<=(33:Rat)^k:=S1 (by grind);rw[Qi];grind
    exact hmono _ _ (by rw[O2];omega)
   have h5:=Pu h4 hK;rw[hu];grind)
 have hlw:∀i,lw (M i)<=b+8:=by
  intro i;have h1:=hbd i;rw[iJ,hMc,wO] at h1;have h67:(67:Rat)^m.length<=(67:Rat)^17:=by
   have hmono:∀(n k:Nat),n<=k->(67:Rat)^n<=(67:Rat)^k:=by
    intro n k hnk;induction k with
    |zero=>rw[show n=0 by omega];grind
    |succ k ih=>
     by_cases e:n=k+1
     ·rw[e];grind
     ·have:=ih (by omega);have hp:(0:Rat)<=(67:Rat)^k:=S1 (by grind);rw[Qi];grind
   exact hmono _ _ hlen
  have h2:=Qb h67 (Qy hK h33);have h3:(67:Rat)^17*(33:Rat)^17<=(1000000000:Rat)^7:=by decide+kernel
  have h4:=Pu h3 hK;have h5:(((M i).natAbs:Nat):Rat)<=(((LB^(b+7):Int)):Rat):=by
   rw[lbr,ym];generalize (67:Rat)^m.length=w1 at*;generalize (67:Rat)^17=w2 at*;generalize (33:Rat)^17=w3 at*;generalize (1000000000:Rat)^7=w4 at*;generalize (1000000000:Rat)^b=w5 at*;grind
  have h6:((M i).natAbs:Int)<=LB^(b+7):=by exact_mod_cast h5
  refine kU ?_;have h7:(LB:Int)^(b+8)=LB^(b+7)*LB:=OB _ _;have h8:=lbpos (b+7);have h9:LB^(b+7)<LB^(b+7)*LB:=by
   have:=Int.mul_lt_mul_of_pos_left (show (1:Int)<LB by decide) h8;simpa using this
  omega
 have hlast:=hMc (m.length-1);rw[<- bR hmp,m1] at hlast;have hM0:M (m.length-1)≠0:=by
  intro e;rw[e] at hlast;apply hc;grind
 refine⟨M (m.length-1),hM0,hlw _,fun i=>⟨M i,hlw i,?_⟩⟩;have h1:=hMc i;have hc2:c=(M (m.length-1):Rat):=by grind
 rw[Qf,<- hc2,<- h1];grind
def Dv(d p:List Rat):Prop:=∃s,Trm s/\∀x,ae d x*ae s x=ae p x
theorem Dv.refl(d:List Rat):Dv d d:=⟨[1],fun _=>by show (1:Rat)≠0;decide,fun x=>by rw[dQ];grind⟩
theorem Dv.nil(d:List Rat):Dv d []:=⟨[],nE,fun x=>by rw[cr];grind⟩
theorem Dv.trans{d e p:List Rat}(h:Dv d e)(h2:Dv e p):Dv d p:=by
 obtain⟨s,s1,s2⟩:=h;obtain⟨t,t1,t2⟩:=h2;exact⟨bx s t,ec s1 t1,fun x=>by rw[aL];have:=s2 x;have:=t2 x;grind⟩
theorem vg{l:List Rat}{c:Rat}(h:Trm l)(hc:c≠0):Trm (l.map fun y=>y*c):=by
 intro hn;have hl:l≠[]:=fun e=>hn (by rw[e];rfl);have hp:=By.2 hl;have h1:=h hl;rw[bR hp] at h1;rw[bR (by rw[O2];exact hp),O2,iJ];intro e;rcases P7.1 e with e|e;·exact h1 e
 ·exact hc e
theorem yF{d p:List Rat}(tp:Trm p):Dv d (bk p)↔Dv d p:=by
 by_cases hp:p=[]
 ·subst hp;exact Iff.rfl
 have hl:=tp hp;constructor;·rintro⟨s,s1,s2⟩;refine⟨s.map fun y=>y*ao p,vg s1 hl,fun x=>?_⟩;have:=s2 x;rw[gK] at this;rw[cH];grind
 ·rintro⟨s,s1,s2⟩;refine⟨s.map fun y=>y*(1/ao p),vg s1 (by intro e;apply hl;grind),fun x=>?_⟩;have:=s2 x;rw[cH,gK];grind
theorem yG:∀(n:Nat) (p q:List Rat),q.length<n->Trm p->Trm q->∀d,Dv d (df n p q)↔(Dv d p/\Dv d q)
 |0,p,q,h,_,_,_=>absurd h (by omega)
 |n+1,p,q,h,tp,tq,d=>by
  rw[df];split;·rename_i hq;subst hq;rw[yF tp];exact⟨fun h=>⟨h,Dv.nil d⟩,fun h=>h.1⟩
  ·(rename_i hq;have hs:=dk (p:=p) (By.2 hq) (tq hq);have tr:=du (q:=q) tp;rw[yG n q _ (by rw[bI];omega) tq (dJ tr) d,yF tr];have hev:=fun x=>qd (p:=p) hq tq x;constructor;·rintro⟨⟨s,s1,s2⟩,t,t1,t2⟩;refine⟨⟨ct (· + ·) (bx s (divN p q).1) t,fF _ _ _,fun x=>?_⟩,s,s1,s2⟩;rw[fT,aL];have:=s2 x;have:=t2 x;have:=hev x;grind);·rintro⟨⟨s,s1,s2⟩,t,t1,t2⟩;refine⟨⟨t,t1,t2⟩,ct (· - ·) s (bx t (divN p q).1),fF _ _ _,fun x=>?_⟩;rw[fp,aL];have:=s2 x;have:=t2 x;have:=hev x;grind
theorem ql{p q:List Rat}(tp:Trm p)(tq:Trm q)(d:List Rat):Dv d (b6 p q)↔(Dv d p/\Dv d q):=yG _ _ _ (RZ _) tp tq d
theorem vh:∀(n:Nat) (p q:List Rat),Trm p->Trm q->df n p q≠[]->ao (df n p q)=1
 |0,p,q,tp,_,h=>by
  rw[df] at h ⊢;have hp:p≠[]:=fun e=>h (by rw[e];rfl);rw[iH (By.2 hp)];have:=tp hp;grind
 |n+1,p,q,tp,tq,h=>by
  rw[df] at h ⊢;split;·rename_i hq;rw[if_pos hq] at h;have hp:p≠[]:=fun e=>h (by rw[e];rfl);rw[iH (By.2 hp)];have:=tp hp;grind
  ·rename_i hq;rw[if_neg hq] at h;exact vh n _ _ tq (dJ (du tp)) h
theorem HB{p q:List Rat}(tp:Trm p)(tq:Trm q)(h:b6 p q≠[]):ao (b6 p q)=1:=vh _ _ _ tp tq h
theorem oL{d p:List Rat}(td:Trm d)(tp:Trm p)(h:Dv d p):∃s,Trm s/\bx d s=p:=by
 obtain⟨s,s1,s2⟩:=h;exact⟨s,s1,iI (ec td s1) tp fun x=>by rw[aL];exact s2 x⟩
def L(l:List (List UInt8)):List (List UInt8):=l
end Go.Cm
end
section
namespace Go.Cm
open Go.Proofs
theorem EL{b k:Nat}{l:List Rat}{c:Rat}(h:Den b l)(hc:lq c<=k):Den (b+k) (l.map fun y=>y*c):=by
 obtain⟨D,d1,d2,d3⟩:=h;refine⟨D*c.den,Pm d1 (fR c),by have:=cd D c.den;have:=ev c;omega,fun i=>?_⟩;obtain⟨n,n1,n2⟩:=d3 i;refine⟨n*c.num,by have:=cd n c.num;have:=dy c;omega,?_⟩;rw[iJ,n2];conv=>lhs;arg 2;rw[<- Ps c]
 rw[Q5]
end Go.Cm
namespace Go.Cm
open Go.Proofs
end Go.Cm
end
section
namespace Go.Cm
open Go.Proofs
theorem sG(f g:Nat->Rat):∀n,dh (fun k=>f k+g k) n=dh f n+dh g n
 |0=>by simp only[dh];grind
 |n+1=>by rw[dh,dh,dh,sG f g n];grind
theorem sH(f:Nat->Rat):∀n,dh f (n+1)=f 0+dh (fun i=>f (i+1)) n
 |0=>by simp only[dh];grind
 |n+1=>by rw[dh,sH f n,dh];grind
theorem AL(f:Nat->Rat)(x:Rat):∀n,ae ((Pa n).map f) x=dh (fun i=>f i*x^i) n
 |0=>rfl
 |n+1=>by rw[j9,AL f x n,dh]
def AM(l:List Rat)(x:Rat)(n:Nat):Rat:=dh (fun i=>cf l (i+1)*((i+1:Nat):Rat)*x^i) n
theorem kb(l:List Rat)(x:Rat){n:Nat}(hn:l.length<=n+1):ae (a7 l) x=AM l x n:=by
 have e:a7 l=(Pa (l.length-1)).map fun i=>cf l (i+1)*((i+1:Nat):Rat):=by
  unfold a7 kY;refine Pw fun i _=>?_;rw[Qf,SN,show ((1:Int):Rat)=1 from rfl];grind
 rw[e,AL];exact(lP _ _ (by omega) fun i hi=>by rw[bE (by omega)];grind).symm
theorem wP{l m:List Rat}(h:∀x,ae l x=ae m x)(x:Rat):ae (a7 l) x=ae (a7 m) x:=by
 have e:br l=br m:=iI (eZ _) (eZ _) fun x=>by rw[fg,fg,h]
 have hc:∀i,cf l i=cf m i:=fun i=>by rw[<- nD l,<- nD m,e]
 rw[kb l x (n:=max l.length m.length) (by omega),kb m x (n:=max l.length m.length) (by omega)];unfold AM;exact eN _ fun i _=>by rw[hc]
theorem LO(a b:List Rat)(i:Nat):cf (ct (· + ·) a b) i=cf a i+cf b i:=by
 unfold ct;rw[nD];by_cases hi:i<max a.length b.length;·exact ka _ _ _ _ _ hi
 ·rw[bE (by rw[jb];omega),bE (l:=a) (by omega),bE (l:=b) (by omega)];grind
theorem JU(a b:List Rat)(x:Rat):ae (a7 (ct (· + ·) a b)) x=ae (a7 a) x+ae (a7 b) x:=by
 have hl:=jH (· + ·) a b;rw[kb _ x (n:=max a.length b.length) (by omega),kb a x (n:=max a.length b.length) (by omega),kb b x (n:=max a.length b.length) (by omega)];unfold AM;rw[<- sG];exact eN _ fun i _=>by rw[LO];grind
theorem vi(c:Rat)(a:List Rat)(x:Rat):ae (a7 (a.map fun y=>y*c)) x=ae (a7 a) x*c:=by
 rw[kb _ x (n:=a.length) (by rw[O2];omega),kb a x (n:=a.length) (by omega)];unfold AM;rw[Rat.mul_comm,<- nG];exact eN _ fun i _=>by rw[iJ];grind
theorem yH(c:Rat)(l:List Rat)(x:Rat):ae (a7 (c::l)) x=ae l x+x*ae (a7 l) x:=by
 rw[kb (c::l) x (n:=l.length) (by simp)];have e0:∀i,cf (c::l) (i+1)=cf l i:=fun i=>by simp[cf]
 have h1:AM (c::l) x l.length=dh (fun i=>cf l i*x^i) l.length+dh (fun i=>cf l i*(i:Rat)*x^i) l.length:=by
  unfold AM;rw[<- sG];refine eN _ fun i _=>?_;rw[e0];have:((i+1:Nat):Rat)=(i:Rat)+1:=by simp
  rw[this];grind
 rw[h1,<- AL (cf l) x,k8 l x _ (Oa _)];congr 1;cases hl:l.length with
 |zero=>
  rw[N7 hl,dh,show a7 []=[] from rfl,cr];grind
 |succ m=>
  rw[sH,kb l x (n:=m) (by omega)];unfold AM;rw[<- nG];have h0:cf l 0*((0:Nat):Rat)*x^0=0:=by simp
  rw[h0,Rat.zero_add];exact eN _ fun i _=>by rw[Qi];grind
theorem wQ(a b:List Rat)(x:Rat):ae (a7 (bx a b)) x=ae (a7 a) x*ae b x+ae a x*ae (a7 b) x:=by
 induction a with
 |nil=>rw[fq,show a7 []=[] from rfl,cr];grind
 |cons c a ih=>
  have h1:∀z,ae (bx (c::a) b) z=ae (ct (· + ·) (0::bx a b) (b.map fun y=>y*c)) z:=fun z=>by
   rw[aL,cN,fT,cN,aL,cH];grind
  rw[wP h1 x,JU,yH,vi,ih,aL,yH,cN];grind
theorem gL{m a b:List Rat}(h:∀x,ae m x=ae a x*ae b x)(x:Rat):ae (a7 m) x=ae (a7 a) x*ae b x+ae a x*ae (a7 b) x:=by
 rw[wP (m:=bx a b) (fun z=>by rw[aL];exact h z) x,wQ]
theorem Dv.of{d p:List Rat}(s:List Rat)(h:∀x,ae d x*ae s x=ae p x):Dv d p:=⟨br s,eZ _,fun x=>by rw[fg];exact h x⟩
theorem KQ:∀(n:Nat) (p q:List Rat),q.length<n->Trm p->Trm q->∃u v:List Rat,∀x,ae (df n p q) x=ae p x*ae u x+ae q x*ae v x
 |0,p,q,h,_,_=>absurd h (by omega)
 |n+1,p,q,h,tp,tq=>by
  rw[df];split;·exact⟨[1/ao p],[],fun x=>by rw[gK,dQ,cr];grind⟩
  ·rename_i hq;have hs:=dk (p:=p) (By.2 hq) (tq hq);have tr:=du (q:=q) tp;obtain⟨u,v,huv⟩:=KQ n q _ (by rw[bI];omega) tq (dJ tr);refine⟨v.map fun y=>y*(1/ao (divN p q).2),ct (· - ·) u (bx (divN p q).1 (v.map fun y=>y*(1/ao (divN p q).2))),fun x=>?_⟩;rw[huv,gK,fp,aL,cH];have:=qd (p:=p) hq tq x;grind
theorem bez{p q:List Rat}(tp:Trm p)(tq:Trm q):∃u v:List Rat,∀x,ae (b6 p q) x=ae p x*ae u x+ae q x*ae v x:=KQ _ _ _ (RZ _) tp tq
def Cop(a b:List Rat):Prop:=∃u v:List Rat,∀x,ae a x*ae u x+ae b x*ae v x=1
theorem Cop.symm{a b:List Rat}(h:Cop a b):Cop b a:=by
 obtain⟨u,v,h⟩:=h;exact⟨v,u,fun x=>by have:=h x;grind⟩
theorem Cop.left{a b d:List Rat}(h:Cop a b)(hd:Dv d a):Cop d b:=by
 obtain⟨u,v,h⟩:=h;obtain⟨s,_,hs⟩:=hd;exact⟨bx s u,v,fun x=>by rw[aL];have:=h x;have:=hs x;grind⟩
theorem Cop.cancel{a b c m:List Rat}(h:Cop a b)(hm:∀x,ae m x=ae b x*ae c x)(hd:Dv a m):Dv a c:=by
 obtain⟨u,v,h⟩:=h;obtain⟨s,_,hs⟩:=hd;exact Dv.of (ct (· + ·) (bx c u) (bx s v)) fun x=>by
  rw[fT,aL,aL];have:=h x;have:=hs x;have:=hm x;grind
theorem Dv.add{d a b m:List Rat}(ha:Dv d a)(hb:Dv d b)(hm:∀x,ae m x=ae a x+ae b x):Dv d m:=by
 obtain⟨s,_,hs⟩:=ha;obtain⟨t,_,ht⟩:=hb;exact Dv.of (ct (· + ·) s t) fun x=>by rw[fT,hm];have:=hs x;have:=ht x;grind
theorem Dv.sub{d a b m:List Rat}(ha:Dv d a)(hb:Dv d b)(hm:∀x,ae m x=ae a x-ae b x):Dv d m:=by
 obtain⟨s,_,hs⟩:=ha;obtain⟨t,_,ht⟩:=hb;exact Dv.of (ct (· - ·) s t) fun x=>by rw[fp,hm];have:=hs x;have:=ht x;grind
theorem Dv.mul{d a b m:List Rat}(ha:Dv d a)(hm:∀x,ae m x=ae a x*ae b x):Dv d m:=by
 obtain⟨s,_,hs⟩:=ha;exact Dv.of (bx s b) fun x=>by rw[aL,hm];have:=hs x;grind
theorem mE{e a b:List Rat}(te:Trm e)(h0:e≠[])(h:∀x,ae e x*ae a x=ae e x*ae b x)(x:Rat):ae a x=ae b x:=by
 have h1:br a=br b:=yn (eZ _) (eZ _) te h0 fun z=>by rw[fg,fg];have:=h z;grind
 rw[<- fg a,h1,fg]
def js(e:List Rat):Nat->List Rat
 |0=>[1]
 |j+1=>bx e (js e j)
theorem qn(e:List Rat)(x:Rat):∀j,ae (js e j) x=ae e x^j
 |0=>by rw[js,dQ,So]
 |j+1=>by rw[js,aL,qn e x j,Qi];grind
theorem sI(e:List Rat)(x:Rat):∀j,ae (a7 (js e (j+1))) x=((j+1:Nat):Rat)*ae e x^j*ae (a7 e) x
 |0=>by
  rw[js,wQ,js,show a7 [(1:Rat)]=[] from rfl,cr,dQ,So];have:((0+1:Nat):Rat)=1:=by simp
  rw[this];grind
 |j+1=>by
  rw[js,wQ,sI e x j,qn,Qi];have:((j+1+1:Nat):Rat)=((j+1:Nat):Rat)+1:=by simp
  rw[this];generalize ((j+1:Nat):Rat)=J;grind
theorem sJ{e:List Rat}(te:Trm e):∀j,Trm (js e j)
 |0=>fun _=>by show (1:Rat)≠0;decide
 |j+1=>ec te (sJ te j)
theorem wR{e:List Rat}(h:e≠[]):∀j,js e j≠[]
 |0=>by simp[js]
 |j+1=>fun e'=>by
  rw[js] at e';rcases k9 e' with e'|e';·exact h e'
  ·exact wR h j e'
theorem mult{e:List Rat}(te:Trm e)(he:2<=e.length):∀(n:Nat) (g:List Rat),g.length<=n->Trm g->g≠[]->∃j g1,¬Dv e g1/\∀x,ae g x=ae (js e j) x*ae g1 x
 |0,g,hn,_,h0=>absurd (N7 (by omega)) h0
 |n+1,g,hn,tg,h0=>by
  by_cases hd:Dv e g
  ·obtain⟨s,ts,hs⟩:=oL te tg hd;(have he0:e≠[]:=by rintro rfl;simp at he);(have hs0:s≠[]:=by rintro rfl;rw[dz] at hs;exact h0 hs.symm);have hl:=cm he0 hs0;rw[hs] at hl;obtain⟨j,g1,h1,h2⟩:=mult te he n s (by omega) ts hs0;refine⟨j+1,g1,h1,fun x=>?_⟩;rw[<- hs,aL,h2,js,aL];grind
  ·exact⟨0,g,hd,fun x=>by rw[js,dQ];grind⟩
theorem KR{e g:List Rat}(te:Trm e)(he:2<=e.length)(tg:Trm g)(h0:g≠[])(hd:Dv e g):∃j g1,¬Dv e g1/\∀x,ae g x=ae (js e (j+1)) x*ae g1 x:=by
 obtain⟨j,g1,h1,h2⟩:=mult te he g.length g (Oa _) tg h0;cases j with
 |zero=>
  exfalso;apply h1;obtain⟨s,_,hs⟩:=hd;exact Dv.of s fun x=>by rw[hs,h2,js,dQ];grind
 |succ j=>exact⟨j,g1,h1,h2⟩
def Sqf(e:List Rat):Prop:=Cop e (a7 e)
structure nI (f s g t:List Rat):Prop where
 tf:Trm f
 f0:f≠[]
 ts:Trm s
 tg:Trm g
 g0:g≠[]
 fs:∀x,ae f x=ae s x*ae g x
 ft:∀x,ae (a7 f) x=ae g x*ae t x
 cop:Cop s t
theorem yI{f:List Rat}(tf:Trm f)(f0:f≠[]):∃s t,nI f s (b6 f (a7 f)) t:=by
 have td:=lO tf;have tg:=sC tf td;have g0:=qk (q:=a7 f) (.inl f0);obtain⟨h1,h2⟩:=(ql tf td _).1 (Dv.refl (b6 f (a7 f)));obtain⟨s,ts,hs⟩:=h1;obtain⟨t,tt,ht⟩:=h2;obtain⟨u,v,huv⟩:=bez tf td;refine⟨s,t,tf,f0,ts,tg,g0,fun x=>by rw[<- hs];grind,fun x=>(ht x).symm,u,v,fun x=>?_⟩;refine mE (a:=ct (· + ·) (bx s u) (bx t v)) (b:=[1]) tg g0 (fun z=>?_) x|>fun h=>by
  rw[fT,aL,aL,dQ] at h;exact h
 rw[fT,aL,aL,dQ];have:=huv z;have:=hs z;have:=ht z;grind
theorem nI.s0{f s g t:List Rat}(h:nI f s g t):s≠[]:=by
 rintro rfl;exact h.f0 (nC h.tf fun x=>by rw[h.fs,cr];grind)
theorem nI.key{f s g t:List Rat}(h:nI f s g t)(x:Rat):ae s x*ae (a7 g) x=ae g x*(ae t x-ae (a7 s) x):=by
 have h1:=gL h.fs x;rw[h.ft] at h1;grind
theorem nI.sqf{f s g t:List Rat}(h:nI f s g t){e:List Rat}(te:Trm e)(hq:Sqf e)(hd:Dv e f):Dv e s:=by
 have e0:e≠[]:=by
  rintro rfl;obtain⟨u,hu⟩:=hd;exact h.f0 (nC h.tf fun x=>by rw[<- hu.2,cr];grind)
 obtain⟨⟨w,tw,hw⟩,hs1⟩:=(ql te h.ts _).1 (Dv.refl (b6 e s));obtain⟨a,b,hab⟩:=bez te h.ts;obtain⟨u,v,huv⟩:=hq;have hde:=gL (m:=e) (a:=b6 e s) (b:=w) fun x=>(hw x).symm;have c1:Cop (b6 e s) w:=⟨ct (· + ·) (bx w u) (bx (a7 w) v),bx (a7 (b6 e s)) v,fun x=>by
  rw[fT,aL,aL,aL];have:=huv x;have:=hw x;have:=hde x;grind⟩
 have c2:Cop w (a7 w):=⟨ct (· + ·) (bx (b6 e s) u) (bx (a7 (b6 e s)) v),bx (b6 e s) v,fun x=>by
  rw[fT,aL,aL,aL];have:=huv x;have:=hw x;have:=hde x;grind⟩
 have c3:Cop w s:=by
  obtain⟨m,n,hmn⟩:=c1;exact⟨ct (· + ·) (bx (b6 e s) (bx a m)) n,bx b m,fun x=>by
   rw[fT,aL,aL,aL];have:=hmn x;have:=hab x;have:=hw x;grind⟩
 have hwg:Dv w g:=c3.cancel (m:=f) h.fs (by
  obtain⟨k,tk,hk⟩:=hd;exact Dv.of (bx (b6 e s) k) fun x=>by rw[aL,<- hk,<- hw];grind)
 by_cases hl:2<=w.length
 ·exfalso;obtain⟨j,g1,hn,hg⟩:=KR tw hl h.tg h.g0 hwg;apply hn;have hdg:=gL hg;have hpw:∀x,ae (js w (j+1)) x=ae w x*ae (js w j) x:=fun x=>by rw[js,aL]
  have hc:∀x,ae (bx s (ct (· + ·) ((bx (a7 w) g1).map fun y=>y*((j+1:Nat):Rat)) (bx w (a7 g1)))) x=ae (bx w (bx g1 (ct (· - ·) t (a7 s)))) x:=by
   (have w0:w≠[]:=by rintro rfl;simp at hl);refine mE (sJ tw j) (wR w0 j) fun x=>?_;rw[aL,fT,cH,aL,aL,aL,aL,fp];have k1:=h.key x;have k2:=hdg x;have k3:=hg x;rw[sI,hpw] at k2;rw[hpw] at k3;rw[k2,k3] at k1;rw[<- qn w x j] at k1;grind
  have hJ:((j+1:Nat):Rat)≠0:=by
   intro e2;(have:(j+1:Nat)=0:=by exact_mod_cast e2);omega
  have d1:Dv w (bx s (bx (a7 w) g1)):=by
   refine Dv.of ((ct (· - ·) (bx g1 (ct (· - ·) t (a7 s))) (bx s (a7 g1))).map fun y=>y*(1/((j+1:Nat):Rat))) fun x=>?_;have:=hc x;rw[aL,fT,cH,aL,aL,aL,aL,fp] at this;rw[cH,fp,aL,aL,aL,aL,fp];generalize ((j+1:Nat):Rat)=J at*;grind
  have d2:Dv w (bx (a7 w) g1):=c3.cancel (fun x=>by rw[aL]) d1;exact c2.cancel (fun x=>by rw[aL]) d2
 ·
  have w0:w≠[]:=by
   rintro rfl;exact e0 (nC te fun x=>by rw[<- hw,cr];grind)
  have hwl:w.length=1:=by have:=By.2 w0;omega
  match w,hwl,w0 with
  | [c],_,_=>
   (have hc0:c≠0:=by have:=tw (by simp);simpa [ao] using this);obtain⟨k,tk,hk⟩:=hs1;refine Dv.of (k.map fun y=>y*(1/c)) fun x=>?_;have:=hw x;rw[dQ] at this;rw[cH,<- hk];grind
theorem vj:∀(n:Nat) {f s g t:List Rat},f.length<=n->nI f s g t->Sqf s
 |0,f,s,g,t,hn,h=>absurd (N7 (by omega)) h.f0
 |n+1,f,s,g,t,hn,h=>by
  have tds:=lO h.ts;have td:=sC h.ts tds;have d0:=qk (q:=a7 s) (.inl h.s0);have d1:=HB h.ts tds d0;obtain⟨hd1,hd2⟩:=(ql h.ts tds _).1 (Dv.refl (b6 s (a7 s)));by_cases hl:2<=(b6 s (a7 s)).length
  ·exfalso;have hslen:s.length<=f.length:=by
    (have e1:bx s g=f:=iI (ec h.ts h.tg) h.tf fun x=>by rw[aL,h.fs]);have e2:=cm h.s0 h.g0;rw[e1] at e2;have:=By.2 h.g0;omega
   have hdlen:(b6 s (a7 s)).length<s.length:=by
    obtain⟨k,tk,hk⟩:=oL td h.ts hd1;have hds:a7 s≠[]:=by
     intro e;rw[e] at hl hd2;have:(a7 s).length=s.length-1:=gE s;rw[e] at this;have h3:=yz s [];simp only[OO] at this h3;have hsl:=By.2 h.s0;rw[Nat.max_eq_left (by omega)] at h3;omega
    obtain⟨k2,tk2,hk2⟩:=oL td tds hd2;(have hk20:k2≠[]:=by rintro rfl;rw[dz] at hk2;exact hds hk2.symm);have:=cm d0 hk20;rw[hk2,gE] at this;have:=By.2 hk20;have hsl:=By.2 h.s0;omega
   generalize b6 s (a7 s)=d at*;have hdg:Dv d g:=by
    refine(h.cop.left hd1).cancel (b:=t) (m:=bx t g) (fun x=>by rw[aL]) ?_;obtain⟨p,_,hp⟩:=hd1;obtain⟨q,_,hq⟩:=hd2;refine Dv.of (ct (· + ·) (bx p (a7 g)) (bx g q)) fun x=>?_;rw[fT,aL,aL,aL];have:=h.key x;have:=hp x;have:=hq x;grind
   obtain⟨e,t2,hsp⟩:=yI td d0;have he:=vj n (by omega) hsp;have hgd:=hsp.g0;have hel:2<=e.length:=by
    (have e1:bx e (b6 d (a7 d))=d:=iI (ec hsp.ts hsp.tg) td fun x=>by rw[aL,hsp.fs]);have e2:=cm hsp.s0 hgd;rw[e1] at e2;have hdd:a7 d≠[]:=by
     intro e3;have:=gE d;rw[e3] at this;simp at this;omega
    obtain⟨_,hx⟩:=(ql td (lO td) _).1 (Dv.refl (b6 d (a7 d)));obtain⟨k,tk,hk⟩:=oL hsp.tg (lO td) hx;(have hk0:k≠[]:=by rintro rfl;rw[dz] at hk;exact hdd hk.symm);have e4:=cm hgd hk0;rw[hk,gE] at e4;have:=By.2 hk0;have:=By.2 hgd;have:=By.2 hsp.s0;omega
   have hed:Dv e d:=Dv.of (b6 d (a7 d)) fun x=>(hsp.fs x).symm;have heg:=hed.trans hdg;have hes:=hed.trans hd1;have hes':=hed.trans hd2;obtain⟨j,g1,hn1,hg⟩:=KR hsp.ts hel h.tg h.g0 heg;obtain⟨h1,th1,hh1⟩:=hes;have hds:=gL (m:=s) (a:=e) (b:=h1) fun x=>(hh1 x).symm;have deh:Dv e h1:=by
    refine he.cancel (m:=bx (a7 e) h1) (fun x=>by rw[aL]) ?_;refine hes'.sub (b:=bx e (a7 h1)) (Dv.of (a7 h1) fun x=>by rw[aL]) fun x=>?_;rw[aL,aL,hds];grind
   have hdg1:=gL hg;have hc:∀x,ae (bx h1 (ct (· + ·) ((bx (a7 e) g1).map fun y=>y*((j+1:Nat):Rat)) (bx e (a7 g1)))) x=ae (bx g1 (ct (· - ·) t (a7 s))) x:=by
    refine mE (sJ hsp.ts (j+1)) (wR hsp.s0 (j+1)) fun x=>?_;rw[aL,fT,cH,aL,aL,aL,fp];have k1:=h.key x;have k2:=hdg1 x;have k3:=hg x;have k4:=hh1 x;(have k5:ae (js e (j+1)) x=ae e x*ae e x^j:=by rw[qn,Qi];grind);rw[sI,k5] at k2;rw[k5] at k3;rw[k2,k3,<- k4] at k1;rw[k5];grind
   apply hn1;have d5:Dv e (bx t g1):=by
    have d6:Dv e (bx g1 (ct (· - ·) t (a7 s))):=by
     obtain⟨k,tk,hk⟩:=deh;refine Dv.of (bx k (ct (· + ·) ((bx (a7 e) g1).map fun y=>y*((j+1:Nat):Rat)) (bx e (a7 g1)))) fun x=>?_;have:=hc x;rw[aL] at this;rw[aL,<- this,<- hk];grind
    (have d7:Dv e (bx g1 (a7 s)):=hes'.mul (b:=g1) fun x=>by rw[aL];grind);refine d6.add d7 fun x=>?_;rw[aL,aL,aL,fp];grind
   exact(h.cop.left ⟨h1,th1,hh1⟩).cancel (fun x=>by rw[aL]) d5
  ·(have hlen:(b6 s (a7 s)).length=1:=by have:=By.2 d0;omega);obtain⟨u,v,huv⟩:=bez h.ts tds;refine⟨u,v,fun x=>?_⟩;rw[<- huv];match hg:b6 s (a7 s),hlen with
   | [c],_=>
    rw[hg] at d1;have:ao [c]=c:=rfl;rw[this] at d1;rw[dQ,d1]
theorem sK{q s:List Rat}(h:br q=s)(hl:q.length=s.length):q=s:=by
 by_cases hn:q=[]
 ·subst hn;exact h
 ·by_cases h0:q.getLastD 0=0
  ·have h1:=mz hn h0;have h2:=jG q.dropLast;have h3:=By.2 hn;rw[<- h1,h,List.length_dropLast] at h2;omega
  ·rw[<- h,rV hn h0]
theorem EM{l s t:List Rat}(h:nI l s (b6 l (a7 l)) t):ak l=bk s:=by
 have e1:bx s (b6 l (a7 l))=l:=iI (ec h.ts h.tg) h.tf fun x=>by rw[aL,h.fs]
 have e2:=cm h.s0 h.g0;rw[e1] at e2;obtain⟨u1,_⟩:=pO (p:=l) h.g0 h.tf h.tg h.ts nE (by simpa using By.2 h.g0) fun z=>by rw[cr,h.fs];grind
 have e3:=jI l (b6 l (a7 l));have hg:=By.2 h.g0;have e4:(divN l (b6 l (a7 l))).1=s:=sK u1 (by omega);unfold ak;rw[if_neg h.f0,e4]
theorem EN{a b:List Rat}{c:Rat}(hc:c≠0)(h:∀x,ae b x=ae a x*c)(ha:Sqf a):Sqf b:=by
 obtain⟨u,v,huv⟩:=ha;have hd:∀x,ae (a7 b) x=ae (a7 a) x*c:=fun x=>by
  rw[wP (m:=a.map fun y=>y*c) (fun z=>by rw[h,cH]) x,vi]
 exact⟨u.map fun y=>y*(1/c),v.map fun y=>y*(1/c),fun x=>by
  rw[cH,cH,h,hd];have:=huv x;grind⟩
structure LP (l s:List Rat):Prop where
 tl:Trm l
 l0:l≠[]
 ts:Trm s
 s0:s≠[]
 s1:ao s=1
 sqf:Sqf s
 dv:Dv s l
 max:∀e,Trm e->Sqf e->Dv e l->Dv e s
theorem kc{l:List Rat}(tl:Trm l)(l0:l≠[]):LP l (ak l):=by
 obtain⟨s,t,h⟩:=yI tl l0;rw[EM h];have hc:=h.ts h.s0;have hp:=By.2 h.s0;refine⟨tl,l0,dJ h.ts,fun e=>h.s0 (jJ.1 e),by rw[iH hp];grind,?_,?_,fun e te he hd=>?_⟩;·exact EN (c:=1/ao s) (by grind) (fun x=>by rw[gK];grind) (vj _ (Oa _) h)
 ·exact Dv.of ((b6 l (a7 l)).map fun y=>y*ao s) fun x=>by rw[cH,gK,h.fs];grind
 ·obtain⟨k,_,hk⟩:=h.sqf te he hd;exact Dv.of (k.map fun y=>y*(1/ao s)) fun x=>by rw[cH,gK];have:=hk x;grind
def kd(l:List Rat):List Rat:=l.map fun c=> -c
def ij:Nat->List Rat->List Rat->List (List Rat)
 |0,_,_=>[]
 |n+1,a,b=>if b=[] then [] else b::ij n b (kd (divN a b).2)
def cR(p:List Rat):List (List Rat):=ak p::ij ((ak p).length+1) (ak p) (a7 (ak p))
def vk:Nat->List Rat->List Rat->Prop
 |0,_,_=>True
 |n+1,a,b=>if b=[] then True else oF b (a.length+1) a/\(∀x∈b,lq x<=QD)/\(∀x∈(divN a b).2,lq x<=QH)/\vk n b (kd (divN a b).2)
structure nJ (p:List ND):Prop where
 sim:pM p
 sz:Sz QH (aw (ak (ab p)))
 len:(ak (ab p)).length<=900
 trm:Trm (ak (ab p))
 dtrm:Trm (a7 (ak (ab p)))
 safe:vk ((ak (ab p)).length+1) (ak (ab p)) (a7 (ak (ab p)))
def iS(c:List (List Rat)):List (List ND):=c.map aw
theorem EO(c:List (List Rat))(x:List Rat):iS (c++ [x])=iS c++ [aw x]:=by simp[iS]
structure yJ (p:List ND) (n:Nat) (c:List (List Rat)) (a b:List Rat):Prop where
 eq:c++ij n a b=cR (ab p)
 fuel:b.length<n
 safe:vk n a b
 ta:Trm a
 tb:Trm b
 la:a.length<=900
 lb:b.length<=900
 lc:c.length+b.length<=901
theorem eO(l:List Rat):(kd l).length=l.length:=by simp[kd]
theorem Ca{l:List Rat}(h:Trm l):Trm (kd l):=by
 intro hn;have hl:l≠[]:=fun e=>hn (by rw[e];rfl);have:=h hl;unfold ao kd at*;rw[Ou,T8];rw[Ou] at this;cases h2:l.getLast? with
 |none=>rw[h2] at this;exact absurd rfl this
 |some x=>rw[h2] at this;simp only[Option.map_some,OV] at this ⊢;intro e;exact this (by rw[<- Rat.neg_neg x,e];rfl)
theorem AN(l:List Rat):(a7 l).length=l.length-1:=by unfold a7 kY;simp
theorem HC{p:List ND}(h:nJ p):yJ p ((ak (ab p)).length+1) [ak (ab p)] (ak (ab p)) (a7 (ak (ab p))):=by
 have hl:=h.len;have hd:=AN (ak (ab p));exact⟨rfl,by omega,h.safe,h.trm,h.dtrm,hl,by omega,by simp;omega⟩
theorem JV{p:List ND}{n:Nat}{c:List (List Rat)}{a b:List Rat}(h:yJ p n c a b)(hb:0<b.length):
  eb (aw a) (aw b)/\Sz QH (aw (divN a b).2)/\(divN a b).2.length<b.length/\c.length<=901/\∃m,yJ p m (c++ [b]) b (kd (divN a b).2):=by
 have hbn:=By.1 hb;have h1:=h.safe;have h2:=h.eq;have h3:=h.fuel;have hl:=h.tb hbn;have hs:=dk (p:=a) hb hl;match n,h1,h2,h3 with
 |n+1,h1,h2,h3=>
  rw[vk,if_neg hbn] at h1;rw[ij,if_neg hbn] at h2;obtain⟨s1,s2,s3,s4⟩:=h1;have hlb:=h.lb;have hlc:=h.lc;have hla:=h.la;refine⟨⟨fS _,gT s2,by rw[aq];exact hla,by rw[aq];exact hlb,by rw[aq];exact hb,by rw[aA];exact hl,by rw[aA,aA,aq];exact s1⟩,gT s3,hs,by omega,
   n,⟨by simpa using h2,by rw[eO];omega,s4,h.tb,Ca (du h.ta),hlb,by rw[eO];omega,by rw[eO,Ol,List.length_singleton];omega⟩⟩
theorem LQ{p:List ND}{n:Nat}{c:List (List Rat)}{a b:List Rat}(h:yJ p n c a b)(hb:¬0<b.length):c=cR (ab p):=by
 have hbn:b=[]:=N7 (by omega);have h2:=h.eq;have h3:=h.fuel;match n,h2,h3 with
 |n+1,h2,h3=>
  rw[ij,if_pos hbn,Pr] at h2;exact h2
def l6(r:List Rat)(k:Nat):List Rat:=kd (r.take k)++r.drop k
theorem EP(r:List Rat):l6 r 0=r:=by simp[l6,kd]
theorem sL(r:List Rat)(k:Nat):(l6 r k).length=r.length:=by
 unfold l6;rw[Ol,eO,Of,Om];omega
theorem HD(r:List Rat):l6 r r.length=kd r:=by simp[l6]
theorem HE{r:List Rat}{k:Nat}(h:k<r.length):(l6 r k)[k]'(by rw[sL];exact h)=r[k]:=by
 unfold l6;rw[R0 (by rw[eO,Of];omega)];simp[eO,Pq (Nat.le_of_lt h)]
theorem ER{r:List Rat}{k:Nat}(h:k<r.length):(l6 r k).set k (-r[k])=l6 r (k+1):=by
 unfold l6;have h1:(kd (r.take k)).length=k:=by rw[eO,Of];omega
 rw[List.set_append_right _ _ (by omega),h1,RT,O0 h,QJ];have h2:r.take (k+1)=r.take k++ [r[k]]:=by rw[Rq,AI h];rfl
 rw[h2];unfold kd;rw[QB,O4];rfl
theorem LR{r:List Rat}(hr:Sz QH (aw r)){k:Nat}(h:k<r.length)(hl:r.length<=1000):
  nth NT (aw (l6 r k)) (k:Int)=aG r[k]/\(NOK (aG r[k])/\lq (an (aG r[k]))<=QC)/\(aw (l6 r k)).set k (aG (-r[k]))=aw (l6 r (k+1))/\IN.wrap ((k:Int)+1)=((k+1:Nat):Int):=by
 have h1:=lM (l:=l6 r k) (k:=k) (by rw[sL];exact h);rw[HE h] at h1;refine⟨h1,⟨aX _,?_⟩,?_,by rw[wo];omega⟩;·rw[ar];have:=(hr (aG r[k]) (Ot.2 ⟨_,OE h,rfl⟩)).2;rw[ar] at this;exact Og this M9
 ·rw[nA,ER h]
def dm(v:Rat):Int:=bq v.num 0
def bU(c:List (List Rat))(x:Rat):List Int:=(c.map fun p=>dm (ae p x)).filter fun s=>s !=0
def ik(l:List Int):Int×Int:=l.foldl (fun a s=>(if a.2*s<0 then a.1+1 else a.1,s)) (0,0)
def c7(c:List (List Rat))(x:Rat):Int:=(ik (bU c x)).1
def mb(c:List (List ND))(x:ND):Prop:=c.length<=1000/\∀p∈c,Sz QM p/\p.length<=100/\NOK x/\lq (an x)<=QM
def b7(c:List (List ND))(x:ND):List (List LV):=(bU (c.map ab) (an x)).map fun s=>[.z (.int .i64) s]
theorem yK(v:Rat):dm v= -1∨dm v=0∨dm v=1:=by
 unfold dm bq;split;·exact .inl rfl
 ·split;·exact .inr (.inr rfl)
  ·exact .inr (.inl rfl)
def il(c:List (List ND))(x:ND)(k:Nat):Nat:=(bU ((c.take k).map ab) (an x)).length
theorem ke(c d:List (List Rat))(x:Rat):bU (c++d) x=bU c x++bU d x:=by simp[bU]
theorem ES(c:List (List ND))(x:ND):il c x 0=0:=by simp[il,bU]
theorem HF(c:List (List ND))(x:ND):il c x c.length=(b7 c x).length:=by simp[il,b7]
theorem ET{c:List (List ND)}{x:ND}{k:Nat}(h:k<c.length):
  (dm (ae (ab c[k]) (an x))=0->il c x (k+1)=il c x k)/\
  (dm (ae (ab c[k]) (an x))≠0->il c x (k+1)=il c x k+1/\∃h2:il c x k<(b7 c x).length,(b7 c x)[il c x k]=[.z (.int .i64) (dm (ae (ab c[k]) (an x)))]):=by
 have h1:(c.take (k+1)).map ab=(c.take k).map ab++ [ab c[k]]:=by
  rw[Rq,AI h,QB];rfl
 have h3:il c x (k+1)=il c x k+(bU [ab c[k]] (an x)).length:=by
  unfold il;rw[h1,ke,Ol]
 refine⟨fun h0=>?_,fun h0=>?_⟩;·rw[h3];simp[bU,h0]
 ·have h4:bU [ab c[k]] (an x)=[dm (ae (ab c[k]) (an x))]:=by simp[bU,h0]
  refine⟨by rw[h3,h4];rfl,?_⟩;have h5:c.map ab=(c.take (k+1)).map ab++(c.drop (k+1)).map ab:=by rw[<- QB,O5]
  have h6:bU (c.map ab) (an x)=bU ((c.take k).map ab) (an x)++(dm (ae (ab c[k]) (an x))::bU ((c.drop (k+1)).map ab) (an x)):=by
   rw[h5,ke,h1,ke,h4];simp
  have h7:il c x k<(b7 c x).length:=by unfold b7;rw[O2,h6,Ol];unfold il;simp
  refine⟨h7,?_⟩;have h8:∀hk:il c x k<(bU (c.map ab) (an x)).length,(bU (c.map ab) (an x))[il c x k]=dm (ae (ab c[k]) (an x)):=by
   rw[h6];intro hk;rw[R0 (by unfold il;omega)];simp[il]
  have h9:il c x k<(bU (c.map ab) (an x)).length:=by simpa [b7] using h7
  have h10:(b7 c x)[il c x k]? =some [.z (.int .i64) (dm (ae (ab c[k]) (an x)))]:=by
   rw[b7,Pp,AI h9,h8 h9];rfl
  rw[AI h7] at h10;exact SJ h10
theorem oM{l:List Int}{k:Nat}(h:k<l.length):ik (l.take (k+1))=(if (ik (l.take k)).2*l[k]<0 then (ik (l.take k)).1+1 else (ik (l.take k)).1,l[k]):=by
 unfold ik;rw[Rq,AI h,S8];rfl
theorem sM:∀(l:List Int),(∀s∈l,s= -1∨s=0∨s=1)->0<=(ik l).1/\(ik l).1<=l.length/\((ik l).2= -1∨(ik l).2=0∨(ik l).2=1):=by
 intro l hl;have key:∀(k:Nat),k<=l.length->0<=(ik (l.take k)).1/\(ik (l.take k)).1<=k/\((ik (l.take k)).2= -1∨(ik (l.take k)).2=0∨(ik (l.take k)).2=1):=by
  intro k;induction k with
  |zero=>intro _;simp[ik]
  |succ k ih=>
   (intro hk;obtain⟨h1,h2,h3⟩:=ih (by omega);rw[oM (by omega)];refine⟨?_,?_,hl _ (OE _)⟩;·simp only;split<;>omega);·simp only;split<;>omega
 have:=key l.length (Oa _);rwa [OD] at this
theorem oN{c:List (List Rat)}{x:Rat}:∀s∈bU c x,s= -1∨s=0∨s=1:=by
 intro s hs;obtain⟨p,_,rfl⟩:=Ot.1 (Qh.1 hs).1;exact yK _
theorem vl(c:List (List Rat))(x:Rat):(bU c x).length<=c.length:=by
 unfold bU;exact Og (List.length_filter_le _ _) (by simp)
theorem en{c:List (List Rat)}{x:Rat}(hc:c.length<=1000):0<=c7 c x/\c7 c x<=1000:=by
 obtain⟨h1,h2,_⟩:=sM (bU c x) oN;have:=vl c x;unfold c7;omega
theorem AO{c:List (List ND)}{a b:ND}(ha:mb c a):IN.wrap (c7 (c.map ab) (an a)-c7 (c.map ab) (an b))=c7 (c.map ab) (an a)-c7 (c.map ab) (an b):=by
 obtain⟨h1,h2⟩:=en (c:=c.map ab) (x:=an a) (by rw[O2];exact ha.1);obtain⟨h3,h4⟩:=en (c:=c.map ab) (x:=an b) (by rw[O2];exact ha.1);exact wo
def fU(p:List Rat)(a b:Rat):Int:=c7 (cR p) a-c7 (cR p) b
structure lQ (p:List ND) (a b:ND):Prop where
 st:nJ p
 va:mb (iS (cR (ab p))) a
 vb:mb (iS (cR (ab p))) b
theorem nK(c:List (List Rat)):(iS c).map ab=c:=by
 unfold iS;rw[QW];conv=>rhs;rw[<- Rs c]
 exact Pw fun x _=>aA x
theorem EU{c:List (List ND)}{x:ND}(hc:mb c x){k:Nat}(hk:k<(b7 c x).length):
  ∃(h:k<(bU (c.map ab) (an x)).length),IN.wrap ((ik ((bU (c.map ab) (an x)).take k)).2*(bU (c.map ab) (an x))[k])=(ik ((bU (c.map ab) (an x)).take k)).2*(bU (c.map ab) (an x))[k]/\
   IN.wrap ((ik ((bU (c.map ab) (an x)).take k)).1+1)=(ik ((bU (c.map ab) (an x)).take k)).1+1:=by
 have h:k<(bU (c.map ab) (an x)).length:=by simpa [b7] using hk
 have hl:=vl (c.map ab) (an x);rw[O2] at hl;have hc1:=hc.1;obtain⟨h1,h2,h3⟩:=sM ((bU (c.map ab) (an x)).take k) (fun s hs=>oN s (Pi hs));have h4:=oN _ (OE h);rw[Of] at h2;refine⟨h,?_,wo⟩;generalize (bU (c.map ab) (an x))[k]=s at h4 ⊢;generalize (ik ((bU (c.map ab) (an x)).take k)).2=u at h3 ⊢;rcases h3 with rfl|rfl|rfl<;>rcases h4 with rfl|rfl|rfl<;>decide
def iK(x y:Rat):Int:=bq (x.num*y.den) (y.num*x.den)
theorem jd{x y:Rat}:iK x y<=0↔x<=y:=by
 rw[Rat.le_iff];unfold iK bq;split;·constructor<;>intro _<;>omega
 ·split;·constructor<;>intro _<;>omega
  ·constructor<;>intro _<;>omega
theorem nL{x y:Rat}:0<iK x y↔y<x:=by
 have:=jd (x:=x) (y:=y);constructor
 ·intro h;have h2:¬x<=y:=fun e=>by have:=this.2 e;omega
  exact Rat.not_le.1 h2
 ·intro h;have h2:¬iK x y<=0:=fun e=>Rat.not_le.2 h (this.1 e);omega
theorem vm(x y:Rat):iK y x= -iK x y:=by
 unfold iK bq;split<;>split<;>(try split)<;>(try split)<;>omega
theorem qo{x y:Rat}:iK x y=0↔x=y:=by
 constructor;·intro h;have h1:=jd.1 (show iK x y<=0 by omega);have h2:=jd.1 (show iK y x<=0 by rw[vm];omega);exact Rat.le_antisymm h1 h2
 ·intro h;subst h;have h1:=jd.2 (Rat.le_refl (a:=x));have h2:=vm x x;omega
theorem EV{x y:ND}(h:dZ x y):(WOK x.1/\WOK y.2/\If x.1.2+If y.2.2<CAP)/\(WOK y.1/\WOK x.2/\If y.1.2+If x.2.2<CAP)/\
   (WOK (enc (dec x.1*dec y.2))/\WOK (enc (dec y.1*dec x.2))/\If (enc (dec x.1*dec y.2)).2+If (enc (dec y.1*dec x.2)).2<CAP):=by
 obtain⟨h1,h2,h3,_⟩:=uI h;exact⟨h1,h2,h3⟩
theorem HG{x y:ND}(h:dZ x y):bq (dec (enc (dec x.1*dec y.2))) (dec (enc (dec y.1*dec x.2)))=iK (an x) (an y):=by
 obtain⟨h1,h2,h3⟩:=h;simp only[bG,h1.d1,h1.d2,h2.d1,h2.d2];rfl
theorem yL{x:ND}(h:NOK x/\lq (an x)<=QC):mr x.1 x.2:=by
 have h1:=h.1.l1;have h2:=h.1.l2;have h3:=h.2;have hp:=h.1.pos;exact⟨h.1.w1,h.1.w2,by omega,by unfold CAP;unfold QC at h3;omega⟩
theorem NM:aG (Ox 1 1)=aG 1:=by decide+kernel
theorem sN:∀(n:Nat) (l:List Rat),l.length=n->l≠[]->Trm l->∀xs:List Rat,xs.Nodup->(∀x∈xs,ae l x=0)->xs.length<l.length
 |0,l,hn,h,_,_,_,_=>absurd (N7 hn) h
 |n+1,l,hn,h,t,xs,hd,hr=>by
  cases xs with
  |nil=>simp only[OO];omega
  |cons x0 xs=>
   have h0:=hr x0 (by simp);have hnd:=P6.1 hd;by_cases h1:l.length=1
   ·exfalso;match l,h1 with
    | [c],_=>
     rw[dQ] at h0;exact t (by simp) (by simpa [ao] using h0)
   ·(have h2:2<=l.length:=by omega);have hsl:=wL x0 l;(have hsn:sdQ x0 l≠[]:=fun e=>by rw[e] at hsl;simp at hsl;omega);(have hst:Trm (sdQ x0 l):=fun _=>by rw[wM _ _ h2];exact t h);have:=sN n (sdQ x0 l) (by omega) hsn hst xs hnd.2 fun x hx=>by
     have e:=B9 x0 x l;rw[hr x (by simp[hx]),h0] at e;have hne:(x-x0)≠0:=by
      intro e2;(have:x=x0:=by grind);exact hnd.1 (this▸hx)
     (have e3:(x-x0)*ae (sdQ x0 l) x=0:=by grind);rcases P7.1 e3 with e4|e4;·exact absurd e4 hne
     ·exact e4
    simp only[Oo];omega
def sO:Nat->List Rat->Bool->List Rat->List Rat
 |0,_,_,out=>out
 |n+1,rest,plus,out=>if (ak rest).length<2 then out else
   sO n (divN rest (ak rest)).1 (!plus) (if plus=true then bx out (divN (ak rest) (ak (divN rest (ak rest)).1)).1 else out)
def gw(p:List Rat):List Rat:=sO (p.length+1) p true [1]
def vn:Nat->List Rat->Bool->List Rat->Prop
 |0,_,_,_=>True
 |n+1,rest,plus,out=>if (ak rest).length<2 then True else
   eb (aw rest) (aw (ak rest))/\pM (aw (divN rest (ak rest)).1)/\eb (aw (ak rest)) (aw (ak (divN rest (ak rest)).1))/\
   (plus=true->Sz QM (aw out)/\Sz QM (aw (divN (ak rest) (ak (divN rest (ak rest)).1)).1)/\out.length<=100/\(divN (ak rest) (ak (divN rest (ak rest)).1)).1.length<=100)/\
   vn n (divN rest (ak rest)).1 (!plus) (if plus=true then bx out (divN (ak rest) (ak (divN rest (ak rest)).1)).1 else out)
structure Cb (p:List ND):Prop where
 nok:∀x∈p,NOK x
 sim:pM p
 safe:vn (p.length+1) (ab p) true [1]
structure yM (p:List ND) (n:Nat) (rest:List Rat) (plus:Bool) (out:List Rat):Prop where
 eq:sO n rest plus out=gw (ab p)
 safe:vn n rest plus out
 fuel:rest.length<n
theorem HH{p:List ND}(h:Cb p):yM p (p.length+1) (ab p) true [1]:=⟨by unfold gw;rw[az],h.safe,by rw[az];omega⟩
theorem sP{l:List Rat}(h:¬(ak l).length<2):0<l.length:=by
 cases l with
 |nil=>exact absurd (by simp[ak]) h
 |cons _ _=>simp
theorem JW{p:List ND}{n:Nat}{rest:List Rat}{plus:Bool}{out:List Rat}(h:yM p n rest plus out)(hl:¬(ak rest).length<2):
  eb (aw rest) (aw (ak rest))/\pM (aw (divN rest (ak rest)).1)/\eb (aw (ak rest)) (aw (ak (divN rest (ak rest)).1))/\
   (plus=true->Sz QM (aw out)/\Sz QM (aw (divN (ak rest) (ak (divN rest (ak rest)).1)).1)/\out.length<=100/\(divN (ak rest) (ak (divN rest (ak rest)).1)).1.length<=100)/\
   (divN rest (ak rest)).1.length<rest.length/\∃m,yM p m (divN rest (ak rest)).1 (!plus) (if plus=true then bx out (divN (ak rest) (ak (divN rest (ak rest)).1)).1 else out):=by
 have h1:=h.eq;have h2:=h.safe;have h3:=h.fuel;have h4:=sP hl;have h5:=jI rest (ak rest);match n,h1,h2,h3 with
 |n+1,h1,h2,h3=>
  rw[sO,if_neg hl] at h1;rw[vn,if_neg hl] at h2;obtain⟨s1,s2,s3,s4,s5⟩:=h2;exact⟨s1,s2,s3,s4,by omega,n,h1,s5,by omega⟩
theorem LS{p:List ND}{n:Nat}{rest:List Rat}{plus:Bool}{out:List Rat}(h:yM p n rest plus out)(hl:(ak rest).length<2):out=gw (ab p):=by
 have h1:=h.eq;have h3:=h.fuel;match n,h1,h3 with
 |n+1,h1,h3=>
  rw[sO,if_pos hl] at h1;exact h1
def qp(s:Int):Int:=if s<0 then 2 else 1
def KS(s:Int):Int:=if s<0 then 4 else 3
def nM(p:List Rat)(step:Rat):Nat->Rat->Int
 |0,_=>0
 |n+1,x=>if dm (ae p x)≠0 then dm (ae p x) else nM p step n (x+step)
def fV(p:List Rat)(a b:Rat):Rat:=(b-a)/Ox (p.length:Int) 1
def oO(p:List Rat)(a b:Rat):Int:=nM p (fV p a b) p.length a
def fW(o:List Rat)(a b:Rat):Int:=if dm (ae o b)=0 then fU o a b-1 else fU o a b
def lf(p:List Rat)(a b:Rat):Int:=
 if p=[]∨(dm (ae p a)=0/\a=b) then 0
 else if a=b then qp (dm (ae p a))
 else if 1<(gw p).length/\0<fW (gw p) a b then 5
 else if dm (ae p a)=0∨0<fU p a b then KS (oO p a b) else qp (oO p a b)
def QA:Nat:=10000000
structure iM (p:List ND) (a b:ND):Prop where
 sz:Sz QM p
 len:p.length<=100
 na:NOK a
 nb:NOK b
 la:lq (an a)<=QA
 lb:lq (an b)<=QA
 trm:Trm (ab p)
 odd:p≠[]->an a≠an b->Cb p
 oro:p≠[]->an a≠an b->1<(gw (ab p)).length->lQ (aw (gw (ab p))) a b/\Sz QM (aw (gw (ab p)))/\(gw (ab p)).length<=100
 rts:p≠[]->an a≠an b->lQ p a b
theorem iM.va{p:List ND}{a b:ND}(h:iM p a b):Sz QM p/\p.length<=100/\NOK a/\lq (an a)<=QM:=⟨h.sz,h.len,h.na,Og h.la (by unfold QA QM;omega)⟩
theorem iM.two{p:List ND}{a b:ND}(h:iM p a b):dZ a b/\dZ b a:=by
 have h1:=h.la;have h2:=h.lb;unfold QA at h1 h2;exact⟨⟨h.na,h.nb,by unfold QC;omega⟩,h.nb,h.na,by unfold QC;omega⟩
theorem HI{v:Rat}:dm v=0↔v=0:=by
 unfold dm;rw[lI,Rat.num_eq_zero]
theorem yN(v:Rat):bq v.num 0=dm v:=rfl
theorem vo{s:Int}(h:s= -1∨s=1):IN.wrap (s+1)=s+1/\(0<=IN.wrap (T2 (s+1) 2)/\IN.wrap (T2 (s+1) 2)<2)/\ [2,1].getD (IN.wrap (T2 (s+1) 2)).toNat 0=qp s/\ [4,3].getD (IN.wrap (T2 (s+1) 2)).toNat 0=KS s:=by
 rcases h with rfl|rfl<;>decide
theorem HJ{v:Rat}(h:dm v≠0):dm v= -1∨dm v=1:=by
 rcases yK v with h1|h1|h1;·exact .inl h1
 ·exact absurd h1 h
 ·exact .inr h1
theorem gx(n:Int):Ox n 1=(n:Rat):=by
 rw[<- Ps (n:Rat)];simp
theorem sQ{n:Nat}(h:0<n):Ox (n:Int) 1≠0:=by
 rw[gx];intro e;have:(n:Int)=0:=by exact_mod_cast e
 omega
structure vp (p:List ND) (a b:ND) (n k:Nat) (x:Rat):Prop where
 eq:nM (ab p) (fV (ab p) (an a) (an b)) n x=oO (ab p) (an a) (an b)
 at_:x=an a+(k:Rat)*fV (ab p) (an a) (an b)
 nk:n+k=p.length
 zero:∀i:Nat,i<k->ae (ab p) (an a+(i:Rat)*fV (ab p) (an a) (an b))=0
 n0:0<n
theorem HM{p:List ND}{a b:ND}(hp:p≠[]):vp p a b p.length 0 (an a):=by
 refine⟨by unfold oO;rw[az],by grind,by omega,fun i hi=>by omega,By.2 hp⟩
theorem JX{p:List ND}{a b:ND}(hp:p≠[])(hab:an a≠an b):fV (ab p) (an a) (an b)≠0:=by
 unfold fV;have hl:(Ox ((ab p).length:Int) 1)≠0:=sQ (by rw[az];exact By.2 hp);intro e;rw[Sd] at e;rcases P7.1 e with h|h;·exact hab (by grind)
 ·have:=Rz _ hl;rw[h] at this;simp at this
theorem EW{s:Rat}(hs:s≠0)(a:Rat)(k:Nat):((Pa k).map fun i:Nat=>a+(i:Rat)*s).Nodup:=by
 refine List.pairwise_map.2 (Th.imp fun {x y} hne h=>hne ?_);have h2:((x:Rat)-(y:Rat))*s=0:=by grind
 rcases P7.1 h2 with h3|h3
 ·have:(x:Rat)=(y:Rat):=by grind
  exact_mod_cast this
 ·exact absurd h3 hs
theorem JY{p:List ND}{a b:ND}(h:iM p a b)(hp:p≠[])(hab:an a≠an b){n k:Nat}{x:Rat}(hz:vp p a b n k x)(h0:dm (ae (ab p) x)=0):
  ∃m,vp p a b m (k+1) (x+fV (ab p) (an a) (an b))/\m<n:=by
 have h1:=hz.eq;have h2:=hz.nk;have h3:=hz.n0;have hv:=HI.1 h0;have hzero:∀i:Nat,i<k+1->ae (ab p) (an a+(i:Rat)*fV (ab p) (an a) (an b))=0:=by
  intro i hi;by_cases e:i=k;·subst e;rw[<- hz.at_];exact hv
  ·exact hz.zero i (by omega)
 have hfew:=sN _ (ab p) rfl (fun e=>hp (N7 (by have:=congrArg If e;rw[az] at this;simpa using this))) h.trm ((Pa (k+1)).map fun i:Nat=>an a+(i:Rat)*fV (ab p) (an a) (an b)) (EW (JX hp hab) _ _) (fun y hy=>by
  obtain⟨i,hi,rfl⟩:=Ot.1 hy;exact hzero i (OJ.1 hi))
 rw[O2,Sg,az] at hfew;match n,h1,h2 with
 |n+1,h1,h2=>
  rw[nM,if_neg (by rw[h0];simp)] at h1;refine⟨n,⟨h1,?_,by omega,hzero,by omega⟩,by omega⟩;rw[hz.at_];have:((k+1:Nat):Rat)=(k:Rat)+1:=by exact_mod_cast rfl
  rw[this];grind
theorem LU{p:List ND}{a b:ND}{n k:Nat}{x:Rat}(hz:vp p a b n k x)(h0:dm (ae (ab p) x)≠0):dm (ae (ab p) x)=oO (ab p) (an a) (an b):=by
 have h1:=hz.eq;have h3:=hz.n0;match n,h1,h3 with
 |n+1,h1,h3=>
  rw[nM,if_pos h0] at h1;exact h1
theorem LW{k:Nat}(h:k<=1000):lq (k:Rat)<=3:=by
 have:(k:Rat)=Ox (k:Int) 1:=by rw[gx];rfl
 rw[this];exact mB (by unfold I64;omega)
theorem JZ{p:List ND}{a b:ND}(h:iM p a b):lq (fV (ab p) (an a) (an b))<=2*QA+10:=by
 have h1:=h.la;have h2:=h.lb;have h3:=mw (an b-an a) (Ox ((ab p).length:Int) 1);have h4:=Ao (an b) (an a);have h5:lq (Ox ((ab p).length:Int) 1)<=3:=mB (by have:=h.len;rw[az];unfold I64;omega);unfold fV;omega
theorem J0{p:List ND}{a b:ND}(h:iM p a b){n k:Nat}{x:Rat}(hz:vp p a b n k x):lq x<=QM/\lq x+lq (fV (ab p) (an a) (an b))<=QC:=by
 have h1:=h.la;have h2:=JZ h;have h3:=h.len;have h4:=hz.nk;have h5:=j8 (an a) ((k:Rat)*fV (ab p) (an a) (an b));have h6:=mv (k:Rat) (fV (ab p) (an a) (an b));have h7:=LW (k:=k) (by omega);have h8:=hz.at_;rw[<- h8] at h5;unfold QA at h1 h2;exact⟨by unfold QM;omega,by unfold QC;omega⟩
theorem AP{p:List ND}{a b:ND}(h:iM p a b)(hp:p≠[]):dZ (aG (an b-an a)) (aG (Ox (p.length:Int) 1))/\an (aG (Ox (p.length:Int) 1))≠0/\I64 (p.length:Int):=by
 have h1:=h.la;have h2:=h.lb;have h6:=h.len;have h4:=Ao (an b) (an a);have h5:lq (Ox (p.length:Int) 1)<=3:=mB (by unfold I64;omega);unfold QA at h1 h2;refine⟨⟨aX _,aX _,by rw[ar,ar];unfold QC;omega⟩,?_,by unfold I64;omega⟩;rw[ar];exact sQ (By.2 hp)
theorem J1{p:List ND}{a b:ND}(h:(((p.length:Nat):Int)==0||dm (ae (ab p) (an a))==0&&iK (an a) (an b)==0)=true):0=lf (ab p) (an a) (an b):=by
 unfold lf;rw[if_pos];rw[OT,beq_iff_eq,N9,beq_iff_eq,beq_iff_eq,qo] at h;refine h.imp (fun h=>N7 (by rw[az];omega)) id
theorem HN{p:List ND}{a b:ND}(h:(((p.length:Nat):Int)==0||dm (ae (ab p) (an a))==0&&iK (an a) (an b)==0)=false):p≠[]/\ ¬(ab p=[]∨(dm (ae (ab p) (an a))=0/\an a=an b)):=by
 have h2:¬(((p.length:Nat):Int)==0||dm (ae (ab p) (an a))==0&&iK (an a) (an b)==0)=true:=by rw[h];simp
 rw[OT,beq_iff_eq,N9,beq_iff_eq,beq_iff_eq,qo] at h2;refine⟨fun e=>h2 (.inl (by rw[e];rfl)),fun e=>h2 (e.imp (fun e=>?_) id)⟩;have:=congrArg If e;rw[az] at this;simp at this;simp[this]
theorem Nm{p:List ND}{a b:ND}(h:¬(ab p=[]∨(dm (ae (ab p) (an a))=0/\an a=an b)))(h1:iK (an a) (an b)=0):
  (dm (ae (ab p) (an a))= -1∨dm (ae (ab p) (an a))=1)/\qp (dm (ae (ab p) (an a)))=lf (ab p) (an a) (an b):=by
 have h2:=qo.1 h1;refine⟨HJ fun e=>h (.inr ⟨e,h2⟩),?_⟩;unfold lf;rw[if_neg h,if_pos h2]
theorem Cc{p:List ND}{a b:ND}(h:¬(ab p=[]∨(dm (ae (ab p) (an a))=0/\an a=an b)))(hab:an a≠an b)(h1:1<(gw (ab p)).length)(h2:0<fW (gw (ab p)) (an a) (an b)):5=lf (ab p) (an a) (an b):=by
 unfold lf;rw[if_neg h,if_neg hab,if_pos ⟨h1,h2⟩]
theorem HO{o:List Rat}{a b:Rat}(h:dm (ae o b)=0):fW o a b=fU o a b-1:=by unfold fW;rw[if_pos h]
theorem HP{o:List Rat}{a b:Rat}(h:¬dm (ae o b)=0):fW o a b=fU o a b:=by unfold fW;rw[if_neg h]
theorem AQ{p:List ND}{a b:ND}(h:lQ p a b):IN.wrap (fU (ab p) (an a) (an b)-1)=fU (ab p) (an a) (an b)-1:=by
 have hl:=h.va.1;unfold iS at hl;rw[O2] at hl;obtain⟨h1,h2⟩:=en (c:=cR (ab p)) (x:=an a) hl;obtain⟨h3,h4⟩:=en (c:=cR (ab p)) (x:=an b) hl;unfold fU;exact wo
theorem J2{p:List ND}{a b:ND}(h:¬(ab p=[]∨(dm (ae (ab p) (an a))=0/\an a=an b)))(hab:an a≠an b)(hno:¬(1<(gw (ab p)).length/\0<fW (gw (ab p)) (an a) (an b)))
  {w:Int×Int} (hw:w=if dm (ae (ab p) (an a))=0∨0<fU (ab p) (an a) (an b) then (4,3) else (2,1)) {s:Int} (hs:s= -1∨s=1) (hf:s=oO (ab p) (an a) (an b)):
  nth (.int .i64) [w.1,w.2] (IN.wrap ((IN.wrap (s+1)).tdiv 2))=lf (ab p) (an a) (an b):=by
 unfold lf;rw[if_neg h,if_neg hab,if_neg hno,<- hf];by_cases hc:dm (ae (ab p) (an a))=0∨0<fU (ab p) (an a) (an b);·rw[if_pos hc] at hw ⊢;subst hw;rcases hs with rfl|rfl<;>decide
 ·rw[if_neg hc] at hw ⊢;subst hw;rcases hs with rfl|rfl<;>decide
def tO(c:Rat):Rat:=if dm c<0 then-c else c
def fG(m c:Rat):Rat:=if 0<iK (tO c) m then tO c else m
def cX(p:List Rat):Rat:=(bk p).foldl fG 0
def cL(p:List Rat):Nat:=Nat.log2 ((cX p+1).num/((cX p+1).den:Int)).toNat+1
def pw(k:Nat):Rat:=((2^k:Nat):Rat)
structure pR (p:List ND):Prop where
 mon:mA p
 sz:∀x∈bk (ab p),lq x<=QA
theorem qq:pw 0=1:=by unfold pw;rfl
theorem qs(k:Nat):pw k+pw k=pw (k+1):=by
 unfold pw;rw[Rw,Q9];push_cast;grind
theorem HQ(c:Rat):lq (tO c)=lq c:=by
 unfold tO;split;· exact rP c
 ·rfl
theorem EX{l:List Rat}{k:Nat}(h:k<l.length):(l.take (k+1)).foldl fG 0=fG ((l.take k).foldl fG 0) l[k]:=by
 rw[Rq,AI h,S8];rfl
theorem AR{l:List Rat}{k:Nat}(h:k<l.length){c:Rat}(hc:c=tO l[k]):(l.take (k+1)).foldl fG 0=if 0<iK c ((l.take k).foldl fG 0) then c else (l.take k).foldl fG 0:=by
 rw[EX h,hc];rfl
theorem qt{K:Nat}(hK:1<=K):∀(l:List Rat) (m:Rat),lq m<=K->(∀x∈l,lq x<=K)->lq (l.foldl fG m)<=K
 | [],m,h,_=>h
 |c::l,m,h,hl=>qt hK l _ (by
  unfold fG;split;· rw[HQ];exact hl c (by simp)
  ·exact h) fun x hx=>hl x (by simp[hx])
theorem Cd:∀(l:List Rat) (m:Rat),0<=m->0<=l.foldl fG m
 | [],m,h=>h
 |c::l,m,h=>Cd l _ (by
   (unfold fG;split;·rename_i h1;have:=nL.1 h1;grind);·exact h)
theorem wS(p:List Rat):0<=cX p:=Cd _ _ (Rat.le_refl)
theorem Ce{m:Rat}(k:Nat):pw k<=m↔(2^k:Int)<=m.num/(m.den:Int):=by
 rw[Rat.le_iff,Int.le_ediv_iff_mul_le (by have:=m.den_pos;omega)];unfold pw;rw[SK,Tw];push_cast;rw[Qe]
theorem nN(p:List Rat)(k:Nat):pw k<=cX p+1↔k<cL p:=by
 have h0:=wS p;have h1:pw 0<=cX p+1:=by rw[qq];grind
 have h2:=(Ce 0).1 h1;unfold cL;rw[Ce];generalize (cX p+1).num/((cX p+1).den:Int)=f at h2 ⊢;obtain⟨n,rfl⟩:∃n:Nat,f=(n:Int):=⟨f.toNat,by simp at h2;omega⟩;have h3:n≠0:=by intro e;subst e;simp at h2
 rw[Od,Nat.lt_succ_iff,Nat.le_log2 h3];constructor;·intro h;exact_mod_cast h
 ·intro h;exact_mod_cast h
theorem KT{p:List ND}(h:pR p):lq (cX (ab p))<=QA:=qt (by unfold QA;omega) _ _ (by have:=ig;unfold QA;omega) h.sz
theorem Cf{p:List ND}(h:pR p)(k:Nat):lq (((bk (ab p)).take k).foldl fG 0)<=QA:=qt (by unfold QA;omega) _ _ (by have:=ig;unfold QA;omega) fun x hx=>h.sz x (Pi hx)
theorem mF{x y:Rat}(hx:lq x<=QA+10)(hy:lq y<=QA+10):dZ (aG x) (aG y):=⟨aX _,aX _,by rw[ar,ar];unfold QA at*;unfold QC;omega⟩
theorem sR{p:List ND}(h:pR p):(bk (ab p)).length<=1000:=by rw[bI,az];exact h.mon.2.1
theorem qu:lq (1:Rat)<=1:=by
 unfold lq;rw[show (1:Rat).num=1 from rfl,show ((1:Rat).den:Int)=1 from rfl,jn];simp
theorem LX{p:List ND}(h:pR p):lq (cX (ab p)+1)<=QA+10:=by
 have h1:=KT h;have h2:=j8 (cX (ab p)) 1;have h3:=qu;omega
theorem HR{p:List ND}(h:pR p){k:Nat}(hk:k<=cL (ab p)):lq (pw k)<=QA+5:=by
 have h1:=KT h;have h2:=j8 (cX (ab p)) 1;have h3:lq (1:Rat)<=1:=by
  unfold lq;rw[show (1:Rat).num=1 from rfl,show ((1:Rat).den:Int)=1 from rfl,jn];simp
 have h4:∀j,j<cL (ab p)->lq (pw j)<=QA+2:=by
  intro j hj;have h5:=(Ce j).1 ((nN (ab p) j).2 hj);have h6:=dy (cX (ab p)+1);have h7:lw (2^j:Int)<=lw (cX (ab p)+1).num:=by
   refine j7 ?_;have h8:(cX (ab p)+1).num/((cX (ab p)+1).den:Int)<=(cX (ab p)+1).num:=SC _ (by
    (have h9:(0:Rat)<=cX (ab p)+1:=by have:=wS (ab p);grind);exact TM.2 h9)
   have h10:(0:Int)<2^j:=QP (by decide);omega
  have h8:lq (pw j)<=max (lw (2^j:Int)) 1:=by
   unfold lq pw;rw[SK,Tw];push_cast;rw[jn];exact Oa _
  omega
 by_cases hj:k<cL (ab p)
 ·have:=h4 k hj;omega
 ·have hk1:k=cL (ab p):=by omega
  have hk2:k-1+1=k:=by unfold cL at hk1;omega
  have:=h4 (k-1) (by omega);have h5:=j8 (pw (k-1)) (pw (k-1));rw[qs,hk2] at h5;have h6:lq (pw k)<=max (lw (2^k:Int)) 1:=by
   unfold lq pw;rw[SK,Tw];push_cast;rw[jn];exact Oa _
  have h7:lw (2^k:Int)<=lw 2+lw (2^(k-1):Int):=by
   have:=cd 2 (2^(k-1));rwa [<- Int.pow_succ',hk2] at this
  have h8:lw (2:Int)<=3:=GM (by unfold I64;omega);have h9:lw (2^(k-1):Int)<=lq (pw (k-1)):=by
   have:=dy (pw (k-1));unfold pw at this;rw[SK] at this;push_cast at this;unfold pw;push_cast;exact this
  omega
def rts(c:List (List Rat))(w:Rat)(A B:Int):Int:=c7 c ((A:Rat)*w)-c7 c ((B:Rat)*w)
def dc(c:List (List Rat))(w:Rat):Nat->Int->List (Int×Int)
 |0,A=>if rts c w A (A+1)=0 then [] else [(A,rts c w A (A+1))]
 |d+1,A=>if rts c w A (A+2^(d+1))=0 then [] else dc c w d A++dc c w d (A+2^d)
def wdN:Nat->Rat
 |0=>1
 |n+1=>wdN n/Ox 2 1
def jt(p:List Rat)(level:Nat):List (Int×Int):=dc (cR p) (wdN level) (cL p+level+1) (-(2^(cL p+level):Int))
def lg(x:Int×Int):List LV:=[.z WT (enc x.1),.z (.int .i64) x.2]
def di(p:List Rat)(level:Nat):List (List LV):=(jt p level).map lg
theorem HS(n:Nat):wdN n*pw n=1:=by
 induction n with
 |zero=>rw[qq,TL];rfl
 |succ n ih=>
  rw[<- qs];show wdN n/Ox 2 1*(pw n+pw n)=1;have h2:Ox 2 1=2:=by rw[gx];rfl
  rw[h2,Sd];have h3:(2:Rat)*(2:Rat)⁻¹=1:=Rz _ (by decide);grind
theorem LY(n:Nat):0<pw n:=by
 unfold pw;have:(0:Nat)<2^n:=Nat.two_pow_pos n;exact_mod_cast this
theorem J3(n:Nat):0<wdN n:=by
 have h1:=HS n;have h2:=LY n;by_cases h:0<wdN n;·exact h
 ·exfalso;have h0:wdN n<=0:=Rat.not_lt.1 h;have h3:wdN n*pw n<=0:=by
   have:=Qy (show 0<= -wdN n by grind) (T7 h2);grind
  rw[h1] at h3;exact absurd h3 (by decide)
structure iN (c:List (List Rat)) (w:Rat) (M:Nat):Prop where
 wpos:0<w
 wq:lq w<=QA
 pt:∀n:Int,n.natAbs<=2^M->lq ((n:Rat)*w)<=QA
 len:c.length<=1000
 sz:∀q∈c,Sz QM (aw q)/\q.length<=100
theorem iN.val{c:List (List Rat)}{w:Rat}{M:Nat}(h:iN c w M){n:Int}(hn:n.natAbs<=2^M):mb (iS c) (aG ((n:Rat)*w)):=by
 refine⟨by unfold iS;rw[O2];exact h.len,fun p hp=>?_⟩;obtain⟨q,hq,rfl⟩:=Ot.1 hp;obtain⟨h1,h2⟩:=h.sz q hq;exact⟨h1,by rw[aq];exact h2,aX _,by rw[ar];exact Og (h.pt n hn) (by unfold QA QM;omega)⟩
theorem iN.two{c:List (List Rat)}{w:Rat}{M:Nat}(h:iN c w M){m n:Int}(hm:m.natAbs<=2^M)(hn:n.natAbs<=2^M):dZ (aG ((m:Rat)*w)) (aG ((n:Rat)*w)):=
 mF (by have:=h.pt m hm;omega) (by have:=h.pt n hn;omega)
theorem Cg{w:Rat}(hw:0<w)(A:Int)(d:Nat):(((A+2^d:Int):Rat)*w-(A:Rat)*w<=w)↔d=0:=by
 have h1:((A+2^d:Int):Rat)*w-(A:Rat)*w=pw d*w:=by
  unfold pw;push_cast;grind
 rw[h1];constructor
 ·intro h;cases d with
  |zero=>rfl
  |succ d=>
   exfalso;rw[<- qs] at h;have h2:(1:Rat)<=pw d:=by
    unfold pw;have:1<=2^d:=Nat.one_le_two_pow;exact_mod_cast this
   have h3:0<=(pw d-1)*w:=Qy (by grind) (T7 hw);grind
 ·intro h;subst h;rw[qq];grind
theorem J4{w:Rat}(A:Int)(d:Nat):((A:Rat)*w+((A+2^(d+1):Int):Rat)*w)/Ox 2 1=((A+2^d:Int):Rat)*w:=by
 have h2:Ox 2 1=2:=by rw[gx];rfl
 have h3:(2:Rat)*(2:Rat)⁻¹=1:=Rz _ (by decide);have h4:((2^(d+1):Int):Rat)=2*((2^d:Int):Rat):=by rw[OB];push_cast;grind
 rw[h2,Sd,Tu,Tu,h4];grind
theorem EY{w:Rat}(hw:0<w)(A:Int):fm (((A:Rat)*w/w).num) (((A:Rat)*w/w).den:Int)=A:=by
 have h1:(A:Rat)*w/w=(A:Rat):=by
  rw[Sd,TT,Rz _ (by intro e;rw[e] at hw;exact absurd hw (by decide)),TL]
 rw[h1];unfold fm;simp
theorem lh{A:Int}{d M:Nat}(h1:A.natAbs<=2^M)(h2:(A+2^(d+1)).natAbs<=2^M):(A+2^d).natAbs<=2^M:=by
 have h3:(0:Int)<2^d:=QP (by decide);have h4:(2:Int)^(d+1)=2*2^d:=by rw[OB];omega
 rw[h4] at h2;generalize (2:Int)^d=x at*;generalize (2:Nat)^M=y at*;omega
theorem vq{c:List (List Rat)}(hc:c.length<=1000)(w:Rat)(A B:Int): -1000<=rts c w A B/\rts c w A B<=1000:=by
 obtain⟨h1,h2⟩:=en (c:=c) (x:=(A:Rat)*w) hc;obtain⟨h3,h4⟩:=en (c:=c) (x:=(B:Rat)*w) hc;unfold rts;omega
theorem J5(c:List (List Rat))(w:Rat)(A B C:Int):rts c w A C-rts c w A B=rts c w B C:=by unfold rts;omega
theorem yO(c:List (List Rat))(w:Rat)(A B:Int):c7 c ((A:Rat)*w)-c7 c ((B:Rat)*w)=rts c w A B:=rfl
theorem iN.sub{c:List (List Rat)}{w:Rat}{M:Nat}(h:iN c w M){m n:Int}(hm:m.natAbs<=2^M)(hn:n.natAbs<=2^M):dZ (aG ((m:Rat)*w-(n:Rat)*w)) (aG w):=by
 have h1:=h.pt m hm;have h2:=h.pt n hn;have h3:=h.wq;have h4:=Ao ((m:Rat)*w) ((n:Rat)*w);unfold QA at*;exact⟨aX _,aX _,by rw[ar,ar];unfold QC;omega⟩
theorem iN.div{c:List (List Rat)}{w:Rat}{M:Nat}(h:iN c w M){m:Int}(hm:m.natAbs<=2^M):dZ (aG ((m:Rat)*w)) (aG w)/\w≠0:=by
 refine⟨mF (by have:=h.pt m hm;omega) (by have:=h.wq;omega),?_⟩;have:=h.wpos;intro e;rw[e] at this;exact absurd this (by decide)
theorem iN.flr{c:List (List Rat)}{w:Rat}{M:Nat}(h:iN c w M){m:Int}(hm:m.natAbs<=2^M):lq ((m:Rat)*w/w)<=QC:=by
 have h1:=h.pt m hm;have h3:=h.wq;have h4:=mw ((m:Rat)*w) w;unfold QA at*;unfold QC;omega
theorem iN.add{c:List (List Rat)}{w:Rat}{M:Nat}(h:iN c w M){m n:Int}(hm:m.natAbs<=2^M)(hn:n.natAbs<=2^M):dZ (aG ((m:Rat)*w+(n:Rat)*w)) (aG (Ox 2 1))/\Ox 2 1≠0:=by
 have h1:=h.pt m hm;have h2:=h.pt n hn;have h4:=j8 ((m:Rat)*w) ((n:Rat)*w);have h5:lq (Ox 2 1)<=3:=mB (by unfold I64;omega);unfold QA at*;refine⟨⟨aX _,aX _,by rw[ar,ar];unfold QC;omega⟩,by rw[gx];decide⟩
theorem yP{c:List (List Rat)}{w:Rat}{d:Nat}{A:Int}(h:rts c w A (A+2^d)=0):dc c w d A=[]:=by
 cases d with
 |zero=>rw[SS] at h;rw[dc,if_pos h]
 |succ d=>rw[dc,if_pos h]
theorem J6{c:List (List Rat)}{w:Rat}{A:Int}(h:rts c w A (A+2^0)≠0):dc c w 0 A=[(A,rts c w A (A+2^0))]:=by
 rw[SS] at h ⊢;rw[dc,if_neg h]
theorem HT{c:List (List Rat)}{w:Rat}{d:Nat}{A:Int}(h:rts c w A (A+2^(d+1))≠0):dc c w (d+1) A=dc c w d A++dc c w d (A+2^d):=by
 rw[dc,if_neg h]
theorem sS(A:Int)(d:Nat):A+2^d+2^d=A+2^(d+1):=by rw[OB];omega
structure nO (p:List ND) (n:Int):Prop where
 st:nJ p
 bd:pR p
 n0:0<=n
 n1:n<=40
 cel:iN (cR (ab p)) (wdN n.toNat) (cL (ab p)+n.toNat)
theorem KU(k:Nat):lq (wdN k)<=1+3*k:=by
 induction k with
 |zero=>exact qu
 |succ k ih=>
  have h:=mw (wdN k) (Ox 2 1);have h5:lq (Ox 2 1)<=3:=mB (by unfold I64;omega);show lq (wdN k/Ox 2 1)<=_;omega
theorem J7{k:Nat}(h:k<=40):(I64 2/\I64 1/\(1:Int)≠0)/\dZ (aG (wdN k)) (aG (Ox 2 1))/\Ox 2 1≠0:=by
 have h1:=KU k;have h5:lq (Ox 2 1)<=3:=mB (by unfold I64;omega);exact⟨⟨by unfold I64;omega,by unfold I64;omega,by decide⟩,mF (by unfold QA;omega) (by unfold QA;omega),by rw[gx];decide⟩
theorem LZ(a b:Nat):pw (a+b)=pw a*pw b:=by unfold pw;rw[TK];push_cast;rfl
theorem J8(K n:Nat):pw K=(((-(2^(K+n):Int))+2^(K+n+1):Int):Rat)*wdN n:=by
 have h1:=HS n;have h2:((-(2^(K+n):Int))+2^(K+n+1):Int)=2^(K+n):=by rw[OB];omega
 rw[h2];have h3:(((2:Int)^(K+n):Int):Rat)=pw (K+n):=by unfold pw;push_cast;rfl
 rw[h3,LZ];grind
theorem J9(K n:Nat): -((((-(2^(K+n):Int))+2^(K+n+1):Int):Rat)*wdN n)=((-(2^(K+n):Int):Int):Rat)*wdN n:=by
 have h2:((-(2^(K+n):Int))+2^(K+n+1):Int)=2^(K+n):=by rw[OB];omega
 rw[h2,Tv];grind
theorem Ch(K n:Nat):(-(2^(K+n):Int)).natAbs<=2^(K+n)/\((-(2^(K+n):Int))+2^(K+n+1):Int).natAbs<=2^(K+n):=by
 have h2:((-(2^(K+n):Int))+2^(K+n+1):Int)=2^(K+n):=by rw[OB];omega
 rw[h2,Int.natAbs_neg,Int.natAbs_pow];exact⟨Oa _,Oa _⟩
def iO:List (List UInt8)->Int
 | []=>0
 |q::r=>if cM q=0 then iO r else cM q
def rdE(p:List (List UInt8))(l:List (List UInt8)):Int:=if dx p=0 then iO l else dx p
def rdP(p:List (List UInt8))(l:List (List UInt8)):List ND:=if rdE p l=0 then aw (dt p) else []
def rdL(p:List (List UInt8))(l:List (List UInt8)):List ND:=if rdE p l=0 then aw (l.map cu) else []
theorem vr:∀{l:List (List UInt8)} {k:Nat} (hk:k<l.length),(l.take k).all (fun q=>decide (cM q=0))=true-> ¬cM l[k]=0->iO l=cM l[k]
 |q::r,0,_,_,hb=>by simp only[iO];rw[if_neg (by simpa using hb)];rfl
 |q::r,k+1,hk,h,hb=>by
  rw[List.take_succ_cons,Qg,N9,decide_eq_true_eq] at h;simp only[iO];rw[if_pos h.1];exact vr (l:=r) (by simpa using hk) h.2 (by simpa using hb)
theorem yQ:∀{l:List (List UInt8)},l.all (fun q=>decide (cM q=0))=true->iO l=0
 | [],_=>rfl
 |q::r,h=>by
  rw[Qg,N9,decide_eq_true_eq] at h;simp only[iO];rw[if_pos h.1];exact yQ h.2
theorem vu:∀{l:List (List UInt8)},iO l=0->∀q∈l,cM q=0
 |q::r,h,x,hx=>by
  simp only[iO] at h;split at h
  ·(rename_i h0;rcases IS.1 hx with rfl|hx;·exact h0);·exact vu h x hx
  ·rename_i h0;exact absurd h h0
theorem yR{p:List (List UInt8)}(h:dx p=0):p.all (fun q=>decide (cM q=0))=true:=by
 unfold dx at h;split at h;·cases h
 ·split at h;·cases h
  ·rename_i h2;simpa using h2
theorem NN{p l:List (List UInt8)}(h:¬dx p=0): []=rdP p l/\ []=rdL p l/\dx p=rdE p l:=by
 have he:rdE p l=dx p:=by unfold rdE;rw[if_neg h]
 unfold rdP rdL;rw[he,if_neg h,if_neg h];exact⟨rfl,rfl,rfl⟩
theorem NP{p l:List (List UInt8)}(h0:dx p=0){k:Nat}(hk:k<l.length)(ha:(l.take k).all (fun q=>decide (cM q=0))=true)(hb:¬cM (nth .str l (k:Int))=0): []=rdP p l/\ []=rdL p l/\cM (nth .str l (k:Int))=rdE p l:=by
 rw[gS (t:= .str) hk] at hb ⊢;have he:rdE p l=cM l[k]:=by unfold rdE;rw[if_pos h0];exact vr hk ha hb
 unfold rdP rdL;rw[he,if_neg hb,if_neg hb];exact⟨rfl,rfl,rfl⟩
theorem L0{p l:List (List UInt8)}(hp:cQ p)(hl:cQ l)(h0:dx p=0)(ha:l.all (fun q=>decide (cM q=0))=true):p.map fY=rdP p l/\l.map fY=rdL p l/\0=rdE p l:=by
 have he:rdE p l=0:=by unfold rdE;rw[if_pos h0];exact yQ ha
 unfold rdP rdL;rw[he,if_pos rfl,if_pos rfl];refine⟨?_,(gv hl ha).2,rfl⟩;unfold dt;rw[if_pos h0];exact(gv hp (yR h0)).2
theorem HU{p:List (List UInt8)}(h:dx p=0):p.length<=41:=by
 unfold dx at h;split at h;·cases h
 ·omega
theorem HV{p l:List (List UInt8)}(hp:cQ p)(hl:cQ l)(hn:l.length<=1000)(h0:dx p=0)(ha:l.all (fun q=>decide (cM q=0))=true):(p.length<QL/\∀q∈p,ga q)/\l.length<QL/\∀q∈l,ga q:=by
 have:=HU h0;exact⟨⟨by unfold QL;omega,(gv hp (yR h0)).1⟩,by unfold QL;omega,(gv hl ha).1⟩
theorem HW{l:List (List UInt8)}(hn:l.length<=1000){k:Nat}(hk:k<l.length)(h:(l.take k).all (fun q=>decide (cM q=0))=true)(hb:cM (nth .str l (k:Int))=0):
  ∃z:Nat,IN.wrap ((k:Int)+1)=(z:Int)/\z<=l.length/\(l.take z).all (fun q=>decide (cM q=0))=true/\l.length-z<l.length-k:=
 ⟨k+1,by rw[wo];rfl,hk,sv hk h hb,by omega⟩
def ctE(p:List (List UInt8))(a b:List UInt8):Int:=if rdE p [a,b]=0 then (if p=[]∨cu b<cu a then 2 else 0) else rdE p [a,b]
def ctN(p:List (List UInt8))(a b:List UInt8):Int:=if ctE p a b=0 then fU (dt p) (cu a) (cu b) else 0
structure gW (p:List (List UInt8)) (a b:List UInt8):Prop where
 sp:cQ p
 sa:a.length<=QL
 sb:b.length<=QL
 ok:ctE p a b=0->lQ (aw (dt p)) (aG (cu a)) (aG (cu b))
def sgE(p:List (List UInt8))(a b:List UInt8):Int:=if rdE p [a,b]=0 then (if cu b<cu a then 2 else 0) else rdE p [a,b]
def sgN(p:List (List UInt8))(a b:List UInt8):Int:=if sgE p a b=0 then lf (dt p) (cu a) (cu b) else 0
structure e8 (p:List (List UInt8)) (a b:List UInt8):Prop where
 sp:cQ p
 sa:a.length<=QL
 sb:b.length<=QL
 ok:sgE p a b=0->iM (aw (dt p)) (aG (cu a)) (aG (cu b))
theorem vv{a b:List UInt8}(ha:a.length<=QL)(hb:b.length<=QL):cQ [a,b]:=by
 refine⟨by unfold QL;simp,fun q hq=>?_⟩;rcases IS.1 hq with rfl|hq;·exact ha
 ·rw[Ph.1 hq];exact hb
theorem KV(x y:ND):nth NT [x,y] 0=x:=rfl
theorem KW(x y:ND):nth NT [x,y] 1=y:=rfl
theorem mG{p:List (List UInt8)}{a b:List UInt8}(h:rdE p [a,b]=0):rdP p [a,b]=aw (dt p)/\rdL p [a,b]=[aG (cu a),aG (cu b)]/\dx p=0/\cM a=0/\cM b=0:=by
 have h0:dx p=0:=by
  unfold rdE at h;split at h;·assumption
  ·rename_i h1;exact absurd h h1
 have h1:iO [a,b]=0:=by unfold rdE at h;rwa [if_pos h0] at h
 have h2:=vu h1;unfold rdP rdL;rw[if_pos h,if_pos h];exact⟨rfl,rfl,h0,h2 a (by simp),h2 b (by simp)⟩
theorem Ci{p:List (List UInt8)}(h:dx p=0):(dt p).length=p.length:=by unfold dt;rw[if_pos h];simp
theorem HY{a:List UInt8}(h:cM a=0)(hl:a.length<=QL):lq (cu a)<=2000:=by
 have:=(oK h hl).2;exact wJ this
theorem HZ{p:List (List UInt8)}{a b:List UInt8}(ha:a.length<=QL)(hb:b.length<=QL)(h:rdE p [a,b]=0):dZ (aG (cu a)) (aG (cu b)):=by
 obtain⟨_,_,_,h1,h2⟩:=mG h;have h3:=HY h1 ha;have h4:=HY h2 hb;exact⟨aX _,aX _,by rw[ar,ar];unfold QC;omega⟩
theorem Nn{p:List (List UInt8)}{a b:List UInt8}(h:¬rdE p [a,b]=0):0=ctN p a b/\rdE p [a,b]=ctE p a b:=by
 have he:ctE p a b=rdE p [a,b]:=by unfold ctE;rw[if_neg h]
 unfold ctN;rw[he,if_neg h];exact⟨rfl,rfl⟩
theorem L1{p:List (List UInt8)}{a b:List UInt8}(h:rdE p [a,b]=0)(h2:(((aw (dt p)).length:Int)==0||decide (0<iK (cu a) (cu b)))=true):0=ctN p a b/\2=ctE p a b:=by
 have he:ctE p a b=2:=by
  unfold ctE;rw[if_pos h,if_pos];rw[OT,beq_iff_eq,decide_eq_true_eq,nL,aq,Ci (mG h).2.2.1] at h2;exact h2.imp (fun h=>N7 (by omega)) id
 unfold ctN;rw[he];exact⟨rfl,rfl⟩
theorem Np{p:List (List UInt8)}{a b:List UInt8}(h:rdE p [a,b]=0)(h2:(((aw (dt p)).length:Int)==0||decide (0<iK (cu a) (cu b)))=false):ctE p a b=0/\ctN p a b=fU (dt p) (cu a) (cu b):=by
 have he:ctE p a b=0:=by
  unfold ctE;rw[if_pos h,if_neg];intro h3;have h4:(((aw (dt p)).length:Int)==0||decide (0<iK (cu a) (cu b)))=true:=by
   rw[OT,beq_iff_eq,decide_eq_true_eq,nL,aq,Ci (mG h).2.2.1];exact h3.imp (fun h=>by rw[h];rfl) id
  rw[h2] at h4;cases h4
 unfold ctN;rw[he];exact⟨rfl,rfl⟩
theorem Nq{p:List (List UInt8)}{a b:List UInt8}(h:¬rdE p [a,b]=0):0=sgN p a b/\rdE p [a,b]=sgE p a b:=by
 have he:sgE p a b=rdE p [a,b]:=by unfold sgE;rw[if_neg h]
 unfold sgN;rw[he,if_neg h];exact⟨rfl,rfl⟩
theorem L2{p:List (List UInt8)}{a b:List UInt8}(h:rdE p [a,b]=0)(h2:0<iK (cu a) (cu b)):0=sgN p a b/\2=sgE p a b:=by
 have he:sgE p a b=2:=by unfold sgE;rw[if_pos h,if_pos (nL.1 h2)]
 unfold sgN;rw[he];exact⟨rfl,rfl⟩
theorem Nr{p:List (List UInt8)}{a b:List UInt8}(h:rdE p [a,b]=0)(h2:¬0<iK (cu a) (cu b)):sgE p a b=0/\sgN p a b=lf (dt p) (cu a) (cu b):=by
 have he:sgE p a b=0:=by unfold sgE;rw[if_pos h,if_neg (fun e=>h2 (nL.2 e))]
 unfold sgN;rw[he];exact⟨rfl,rfl⟩
def tP(x:Int×Int):Bool:=decide (2000<eV x.1)
def nP(x:Int×Int):List UInt8×Int:=(ON x.1,x.2)
def clL(p:List (List UInt8))(n:Int):List (Int×Int):=jt (ab (rdP p [])) n.toNat
def clE(p:List (List UInt8))(n:Int):Int:=
 if rdE p []=0 then
  if rdP p []=[]∨n<0∨40<n then 2
  else if (clL p n).any tP=true then 6 else 0
 else rdE p []
def clR(p:List (List UInt8))(n:Int):List (List UInt8×Int):=if clE p n=0 then (clL p n).map nP else []
structure fX (p:List (List UInt8)) (n:Int):Prop where
 sp:cQ p
 ok:rdE p []=0->rdP p []≠[]->0<=n->n<=40->nO (rdP p []) n/\(clL p n).length<=100000
theorem iP{c:List (List Rat)}{w:Rat}{M:Nat}:∀(d:Nat) (A:Int),A.natAbs<=2^M->(A+2^d).natAbs<=2^M->∀x∈dc c w d A,x.1.natAbs<=2^M/\ -1000<=x.2∨ ¬c.length<=1000
 |0,A,h1,h2,x,hx=>by
  rw[dc] at hx;split at hx;·simp at hx
  ·(simp only[Ph] at hx;subst hx;by_cases hc:c.length<=1000;·exact .inl ⟨h1,(vq hc w A (A+1)).1⟩);·exact .inr hc
 |d+1,A,h1,h2,x,hx=>by
  rw[dc] at hx;split at hx;·simp at hx
  ·(rcases List.mem_append.1 hx with hx|hx;·exact iP d A h1 (lh h1 h2) x hx);·exact iP d (A+2^d) (lh h1 h2) (by rw[sS];exact h2) x hx
theorem H0{p:List ND}{n:Int}(h:nO p n){x:Int×Int}(hx:x∈jt (ab p) n.toNat):lw x.1<=2*QA:=by
 obtain⟨t1,t2⟩:=Ch (cL (ab p)) n.toNat;rcases iP _ _ t1 t2 x hx with⟨hb,-⟩|hb
 ·have h1:=h.cel.pt _ hb;have h2:=h.cel.wq;have h3:=mw ((x.1:Rat)*wdN n.toNat) (wdN n.toNat);have h4:(x.1:Rat)*wdN n.toNat/wdN n.toNat=(x.1:Rat):=by
   have hw:=h.cel.wpos;rw[Sd,TT,Rz _ (by intro e;rw[e] at hw;exact absurd hw (by decide)),TL]
  rw[h4] at h3;have h5:=dy (x.1:Rat);rw[show ((x.1:Rat)).num=x.1 from Rat.num_intCast x.1] at h5;omega
 ·exact absurd h.cel.len hb
theorem EZ{p:List ND}{n:Int}(h:nO p n){k:Nat}(hk:k<(jt (ab p) n.toNat).length):WOK (enc ((jt (ab p) n.toNat)[k]).1)/\(enc ((jt (ab p) n.toNat)[k]).1).2.length<CAP:=by
 have h1:=H0 h (OE hk);unfold lw QA at h1;refine⟨enc_ok _,?_⟩;unfold CAP;generalize (enc ((jt (ab p) n.toNat)[k]).1).2.length=m at h1 ⊢;omega
theorem KX{p:List (List UInt8)}{n:Int}(h0:rdE p []=0)(hp:rdP p []≠[])(hn:¬n<0)(hn2:¬40<n):clE p n=if (clL p n).any tP=true then 6 else 0:=by
 unfold clE;rw[if_pos h0,if_neg (by rintro(h|h|h);exact hp h;exact hn h;exact hn2 h)]
theorem L3{p:List (List UInt8)}{n:Int}(h0:¬rdE p []=0): []=clR p n/\rdE p []=clE p n:=by
 have h:clE p n=rdE p []:=by unfold clE;rw[if_neg h0]
 unfold clR;rw[h,if_neg h0];exact⟨rfl,rfl⟩
theorem L4{p:List (List UInt8)}{n:Int}(h0:rdE p []=0)(h:rdP p []=[]∨n<0∨40<n): []=clR p n/\2=clE p n:=by
 have h:clE p n=2:=by unfold clE;rw[if_pos h0,if_pos h]
 unfold clR;rw[h,if_neg (by decide)];exact⟨rfl,rfl⟩
theorem L5{p:List (List UInt8)}{n:Int}(h0:rdE p []=0)(hp:rdP p []≠[])(hn:¬n<0)(hn2:¬40<n){k:Nat}(hk:k<(clL p n).length)(hb:2000<eV (clL p n)[k].1): []=clR p n/\6=clE p n:=by
 have h:clE p n=6:=by
  rw[KX h0 hp hn hn2,if_pos];rw[List.any_eq_true];exact⟨_,OE hk,by unfold tP;simpa using hb⟩
 unfold clR;rw[h,if_neg (by decide)];exact⟨rfl,rfl⟩
theorem L6{p:List (List UInt8)}{n:Int}(h0:rdE p []=0)(hp:rdP p []≠[])(hn:¬n<0)(hn2:¬40<n)(ha:((clL p n).take (clL p n).length).any tP=false):((clL p n).take (clL p n).length).map nP=clR p n/\0=clE p n:=by
 rw[OD] at ha ⊢;have h:clE p n=0:=by rw[KX h0 hp hn hn2,if_neg (by rw[ha];decide)]
 unfold clR;rw[h,if_pos rfl];exact⟨rfl,rfl⟩
theorem Cj{l:List (Int×Int)}{k:Nat}(hk:k<l.length)(ha:(l.take k).any tP=false)(hb:¬2000<eV l[k].1):(l.take (k+1)).any tP=false/\(l.take k).map nP++ [(ON l[k].1,l[k].2)]=(l.take (k+1)).map nP:=by
 rw[Rq,AI hk];refine⟨?_,by rw[QB];rfl⟩;rw[List.any_append,ha];simp only[Option.toList_some,List.any_cons,List.any_nil,Bool.or_false,Bool.false_or,tP,decide_eq_false_iff_not];exact hb
theorem E0{p:List (List UInt8)}(h:cQ p):cQ p/\cQ []/\([]:List (List UInt8)).length<=1000:=⟨h,⟨by simp,fun q hq=>by cases hq⟩,by simp⟩
theorem Ka{p:List (List UInt8)}{n:Int}(hlen:(clL p n).length<=100000)(k:Nat):Cm.Roomy 2 ((((clL p n).take k).map nP).length+1):=by
 have h:(((clL p n).take k).map nP).length<=100000:=by rw[O2,Of];omega
 unfold Cm.Roomy;omega
theorem H1{l:List (Int×Int)}{k:Nat}(hk:k<l.length)(ha:(l.take k).any tP=false)(hb:¬2000<eV (dec (enc l[k].1))):(l.take k).map nP++ [(ON (dec (enc l[k].1)),l[k].2)]=(l.take (k+1)).map nP/\(l.take (k+1)).any tP=false:=by
 rw[bG] at hb ⊢;exact⟨(Cj hk ha hb).2,(Cj hk ha hb).1⟩
theorem L7{α:Type}{l:List α}{n:Int}(h:(((l.length:Int)==0)||decide (n<0)||decide (40<n))=true):l=[]∨n<0∨40<n:=by
 simp only[OT,beq_iff_eq,decide_eq_true_eq] at h;rcases h with(h|h)|h;·exact .inl (N7 (by omega))
 ·exact .inr (.inl h)
 ·exact .inr (.inr h)
theorem Ns{α:Type}{l:List α}{n:Int}(h:(((l.length:Int)==0)||decide (n<0)||decide (40<n))=false):l≠[]/\ ¬n<0/\ ¬40<n:=by
 simp only[PN,beq_eq_false_iff_ne,decide_eq_false_iff_not] at h;obtain⟨⟨h1,h2⟩,h3⟩:=h;exact⟨fun e=>h1 (by rw[e];rfl),h2,h3⟩
theorem Kb{b:Nat}{l:List Rat}(h:Den b l):Den b (kd l):=by
 obtain⟨D,d1,d2,d3⟩:=h;refine⟨D,d1,d2,fun i=>?_⟩;obtain⟨n,n1,n2⟩:=d3 i;refine⟨-n,by rw[Am];exact n1,?_⟩;have:cf (kd l) i= -cf l i:=by
  unfold kd cf;simp only[sh,Pp];cases l[i]? <;>simp
 rw[this,n2];simp only[Qf,Tv];have f1:(D:Rat)≠0:=by simpa using d1
 generalize (D:Rat)=D' at*;grind
theorem vw{r s:List Rat}(tr:Trm r)(ts:Trm s)(r0:r≠[])(s0:s≠[])(h:Dv s r):∃t,(divN r s).1=t/\Trm t/\t≠[]/\bx s t=r/\s.length+t.length=r.length+1/\ao s*ao t=ao r:=by
 obtain⟨t,tt,ht⟩:=oL ts tr h;have t0:t≠[]:=by rintro rfl;rw[dz] at ht;exact r0 ht.symm
 have hl:=cm s0 t0;rw[ht] at hl;have hs:=By.2 s0;have htp:=By.2 t0;obtain⟨u1,_⟩:=pO (p:=r) s0 tr ts tt nE (by simpa using hs) fun z=>by rw[cr,<- ht,aL];grind
 have e:=jI r s;exact⟨t,sK u1 (by omega),tt,t0,ht,by omega,by rw[<- oH s0 t0,ht]⟩
theorem mH{b:Nat}{l m:List Rat}(hl:Sml 9 b l)(l0:l≠[])(tm:Trm m)(m0:m≠[])(m1:ao m=1)(h:Dv m l):Sml 9 (b+8) m/\m.length<=l.length:=by
 obtain⟨s,ts,hs⟩:=oL tm hl.trm h;have s0:s≠[]:=by rintro rfl;rw[dz] at hs;exact l0 hs.symm
 have hln:=cm m0 s0;rw[hs] at hln;have:=By.2 s0;have:=hl.len;exact⟨⟨by omega,tm,yE ⟨by omega,hl.trm,hl.den⟩ l0 hs tm m1⟩,by omega⟩
theorem AU{l:List Rat}(h:l≠[])(t:Trm l):ao (bk l)=1:=by
 rw[iH (By.2 h)];have:=t h;grind
theorem L8{r:List Rat}(tr:Trm r)(r0:r≠[]):Dv (bk r) r:=Dv.of [ao r] fun x=>by
 rw[gK,cN,cr];have:=tr r0;grind
theorem yS{r:List Rat}(tr:Trm r)(r0:r≠[]):(bk r).map (fun y=>y*ao r)=r:=by
 have h:=tr r0;unfold bk;rw[QW];conv=>rhs;rw[<- Rs r]
 refine Pw fun x _=>?_;show x/ao r*ao r=x;grind
theorem H2{b:Nat}{l:List Rat}(h:Den b l)(l0:l≠[]):lq (ao l)<=b:=by
 have hp:=By.2 l0;exact h.lq _ (by rw[bR hp];exact rW (by omega))
theorem yT{b:Nat}{l r:List Rat}(hl:Sml 9 b l)(l0:l≠[])(tr:Trm r)(r0:r≠[])(h:Dv r l)(hr:ao r=ao l):Sml 9 (2*b+8) r/\r.length<=l.length:=by
 obtain⟨h1,h2⟩:=mH hl l0 (dJ tr) (fun e=>r0 (jJ.1 e)) (AU r0 tr) ((L8 tr r0).trans h);rw[bI] at h2;refine⟨⟨by have:=hl.len;omega,tr,?_⟩,h2⟩;have h3:=EL (k:=b) (c:=ao r) h1.den (by rw[hr];exact H2 hl.den l0);rw[yS tr r0] at h3;exact h3.mono (by omega)
theorem wT{b:Nat}{l:List Rat}(hl:Sml 9 b l)(hb:b<=200):pM (aw l):=by
 have e1:QD=10000000000:=rfl;have pl:=hl.pol (by omega) (by omega);have pd:=JP hl (by omega) (by omega);have e:max b (b+1)+1=b+2:=by omega
 have h3:3^(9-1)=6561:=rfl;obtain⟨_,g1,g2⟩:=JO hl (hl.der (by omega)) pl pd (by rw[e,h3];omega);rw[e,h3] at g2;exact(LK hl pl g1 g2 (by omega)).1
theorem AW{b:Nat}{l:List Rat}(hl:Sml 9 b l):Sml 9 (b+8) (ak l):=by
 by_cases l0:l=[]
 ·subst l0;have e:ak []=[]:=by unfold ak;rw[if_pos rfl]
  rw[e];exact⟨by simp,nE,nF (by omega)⟩
 ·have h:=kc hl.trm l0;exact(mH hl l0 h.ts h.s0 h.s1 h.dv).1
theorem yU:∀(n:Nat) (p q:List Rat) (b:Nat),Den b p->Den b q->Trm p->Trm q->q.length<n->(b+1)*(p.length+1-q.length+1)*3^q.length<=QD->
  vk n p q/\∀x∈ij n p q,Den ((b+1)*(p.length+1-q.length+1)*3^q.length) x/\x.length<=q.length
 |0,p,q,b,_,_,_,_,h,_=>absurd h (by omega)
 |n+1,p,q,b,dp,dq,tp,tq,hn,hb=>by
  have hpow:0<3^q.length:=Nat.pow_pos (by decide);have hb1:(b+1)*(p.length+1-q.length+1)<=QD:=Og (Ro _ hpow) hb;have hb2:b+(p.length+1-q.length)*(b+1)+1=(b+1)*(p.length+1-q.length+1):=by
   have e:=Nat.mul_add (b+1) (p.length+1-q.length) 1;rw[Nat.mul_one,Q9 (b+1) (p.length+1-q.length)] at e;omega
  have hb3:b<=QD:=by
   have:0<=(p.length+1-q.length)*(b+1):=PM _;omega
  have hb4:b<=(b+1)*(p.length+1-q.length+1)*3^q.length:=Og (by omega:b<=(b+1)*(p.length+1-q.length+1)) (Ro _ hpow);have hqh:QD<=QH:=by unfold QD QH;omega
  rw[vk,ij];by_cases hq:q=[];·rw[if_pos hq,if_pos hq];exact⟨trivial,fun x hx=>by cases hx⟩
  ·rw[if_neg hq,if_neg hq];have hl:=By.2 hq;have hs:=dk (p:=p) hl (tq hq);obtain⟨k1,k2⟩:=qg (K:=b+(p.length+1-q.length)*(b+1)) dp dq hq tq (Oa _) (by have:=dp.pos;omega);have tr:=du (q:=q) tp;have hphi:(b+(p.length+1-q.length)*(b+1)+1)*(q.length+1-(kd (divN p q).2).length+1)*3^(kd (divN p q).2).length<=(b+1)*(p.length+1-q.length+1)*3^q.length:=by
    rw[hb2,eO];rw[Nat.mul_assoc];refine Po _ ?_;obtain⟨t,ht⟩:∃t,q.length=(divN p q).2.length+(t+1):=⟨q.length-(divN p q).2.length-1,by omega⟩;rw[ht,TK,Q9];refine Po _ ?_;have:=oI t;omega
   (obtain⟨g1,g2⟩:=yU n q (kd (divN p q).2) _ (dq.mono (by omega)) (Kb k2) tq (Ca tr) (by rw[eO];omega) (Og hphi hb);refine⟨⟨qf dq hl (tq hq) _ _ _ dp (by omega),fun x hx=>by have:=dq.lq x hx;omega,fun x hx=>by have:=k2.lq x hx;omega,g1⟩,fun x hx=>?_⟩;rcases IS.1 hx with rfl|hx;·exact⟨dq.mono hb4,Oa _⟩);·obtain⟨g3,g4⟩:=g2 x hx;rw[eO] at g4;exact⟨g3.mono hphi,by omega⟩
theorem pS:∀(n:Nat) (p q:List Rat),(ij n p q).length<=n
 |0,_,_=>Oa _
 |n+1,p,q=>by
  rw[ij];split;·simp
  ·have:=pS n q (kd (divN p q).2);simp only[Oo];omega
theorem sU{b:Nat}{l:List Rat}(hl:Sml 9 b l)(hb:b<=200):nJ (aw l)/\(cR l).length<=11/\∀q∈cR l,Sz QM (aw q)/\q.length<=100:=by
 have e1:QD=10000000000:=rfl;have e2:QM=400000000:=rfl;have e3:QH=40000000000:=rfl;have hs:=AW hl;have hsl:=hs.len;have hd:=hs.der (by omega);have hdl:=gE (ak l);have hB:(b+9+1)*((ak l).length+1-(a7 (ak l)).length+1)*3^(a7 (ak l)).length<=(b+10)*3*6561:=by
  refine Rp (Rp (Oa _) (by omega)) ?_;exact Og (PA (by decide) (by omega:(a7 (ak l)).length<=8)) (by decide)
 obtain⟨c1,c2⟩:=yU ((ak l).length+1) (ak l) (a7 (ak l)) (b+9) (hs.den.mono (by omega)) hd.den hs.trm hd.trm (by omega) (by omega);refine⟨⟨wT hl hb,?_,?_,?_,?_,?_⟩,?_,?_⟩;·rw[aA];exact hs.den.sz (by omega)
 ·rw[aA];omega
 ·rw[aA];exact hs.trm
 ·rw[aA];exact hd.trm
 ·rw[aA];exact c1
 ·unfold cR;have:=pS ((ak l).length+1) (ak l) (a7 (ak l));simp only[Oo];omega
 ·intro q hq;unfold cR at hq;rcases IS.1 hq with rfl|hq;·exact⟨hs.den.sz (by omega),by omega⟩
  ·obtain⟨g1,g2⟩:=c2 q hq;exact⟨g1.sz (by omega),by omega⟩
theorem H3{b:Nat}{l:List Rat}(hl:Sml 9 b l)(hb:b<=200){x:Rat}(hx:lq x<=QM):mb (iS (cR l)) (aG x):=by
 obtain⟨_,h2,h3⟩:=sU hl hb;refine⟨by unfold iS;rw[O2];omega,fun p hp=>?_⟩;obtain⟨q,hq,rfl⟩:=Ot.1 hp;exact⟨(h3 q hq).1,by rw[aq];exact(h3 q hq).2,aX _,by rw[ar];exact hx⟩
theorem sV{b:Nat}{l:List Rat}(hl:Sml 9 b l)(hb:b<=200){x y:Rat}(hx:lq x<=QM)(hy:lq y<=QM):lQ (aw l) (aG x) (aG y):=
 ⟨(sU hl hb).1,by rw[aA];exact H3 hl hb hx,by rw[aA];exact H3 hl hb hy⟩
structure kf (l rest out:List Rat):Prop where
 tr:Trm rest
 r0:rest≠[]
 last:ao rest=ao l
 to:Trm out
 o0:out≠[]
 o1:ao out=1
 dv:Dv (bx out rest) l
theorem kf.dr{l rest out:List Rat}(h:kf l rest out):Dv rest l:=(Dv.of out fun x=>by rw[aL];grind).trans h.dv
theorem kf.do_{l rest out:List Rat}(h:kf l rest out):Dv out l:=(Dv.of rest fun x=>by rw[aL]).trans h.dv
theorem E3{l:List Rat}(tl:Trm l)(l0:l≠[]):kf l l [1]:=
 ⟨tl,l0,rfl,fun _=>by show (1:Rat)≠0;decide,by simp,rfl,Dv.of [1] fun x=>by rw[aL,dQ];grind⟩
theorem E4{b:Nat}{l rest out:List Rat}(hl:Sml 9 b l)(l0:l≠[])(hb:b<=90)(h:kf l rest out)(plus:Bool):
  eb (aw rest) (aw (ak rest))/\pM (aw (divN rest (ak rest)).1)/\eb (aw (ak rest)) (aw (ak (divN rest (ak rest)).1))/\
   (plus=true->Sz QM (aw out)/\Sz QM (aw (divN (ak rest) (ak (divN rest (ak rest)).1)).1)/\out.length<=100/\(divN (ak rest) (ak (divN rest (ak rest)).1)).1.length<=100)/\
   kf l (divN rest (ak rest)).1 (if plus=true then bx out (divN (ak rest) (ak (divN rest (ak rest)).1)).1 else out):=by
 have e1:QD=10000000000:=rfl;have e2:QM=400000000:=rfl;obtain⟨hr,hrl⟩:=yT hl l0 h.tr h.r0 h.dr h.last;have hs:=kc h.tr h.r0;obtain⟨t,ht,tt,t0,htm,htl,htq⟩:=vw h.tr hs.ts h.r0 hs.s0 hs.dv;rw[ht];rw[hs.s1,Ud] at htq;have hdt:Dv t rest:=Dv.of (ak rest) fun x=>by rw[<- aL,uW tt hs.ts,htm]
 have hdl:=hdt.trans h.dr;obtain⟨ht9,htl9⟩:=yT hl l0 tt t0 hdl (by rw[htq];exact h.last);have hs2:=kc tt t0;have hd2:Dv (ak t) (ak rest):=hs.max _ hs2.ts hs2.sqf (hs2.dv.trans hdt);obtain⟨d,hd,td,d0,hdm,hdln,hdq⟩:=vw hs.ts hs2.ts hs.s0 hs2.s0 hd2;rw[hd];rw[hs2.s1,hs.s1,Ud] at hdq;have s1:=(mH hl l0 hs.ts hs.s0 hs.s1 (hs.dv.trans h.dr)).1;have s2:=(mH hl l0 hs2.ts hs2.s0 hs2.s1 (hs2.dv.trans hdl)).1;have hdd:Dv d (ak rest):=Dv.of (ak t) fun x=>by rw[<- aL,uW td hs2.ts,hdm]
 have s3:=(mH hl l0 td d0 hdq (hdd.trans (hs.dv.trans h.dr))).1;have s4:=(mH hl l0 h.to h.o0 h.o1 h.do_).1;have r1:=hr.len;have q1:=s1.len;have q2:=s2.len;have q3:=s3.len;have q4:=s4.len;have p1:=By.2 hs.s0;have p2:=By.2 hs2.s0;have m1:((rest.length+1-(ak rest).length)*(b+8+1))<=10*(b+8+1):=Oc _ (by omega);have m2:(((ak rest).length+1-(ak t).length)*(b+8+1))<=10*(b+8+1):=Oc _ (by omega);refine⟨?_,wT ht9 (by omega),?_,fun _=>⟨s4.den.sz (by omega),s3.den.sz (by omega),by omega,by omega⟩,tt,t0,by rw[htq];exact h.last,?_,?_,?_,?_⟩;·exact AD (b:=2*b+8) (c:=b+8) (fS _) (fS _) (by rw[aA];exact hr.den) (by rw[aA];exact s1.den) (by rw[aq];omega) (by rw[aq];omega) (by rw[aq];exact p1) (by rw[aA];exact hs.ts) (by rw[aq,aq];omega) (by omega)
 ·exact AD (b:=b+8) (c:=b+8) (fS _) (fS _) (by rw[aA];exact s1.den) (by rw[aA];exact s2.den) (by rw[aq];omega) (by rw[aq];omega) (by rw[aq];exact p2) (by rw[aA];exact hs2.ts) (by rw[aq,aq];omega) (by omega)
 ·split;·exact ec h.to td
  ·exact h.to
 ·split;·intro e;exact(k9 e).elim h.o0 d0
  ·exact h.o0
 ·split;·rw[oH h.o0 d0,h.o1,hdq];exact Ud 1
  ·exact h.o1
 ·split;·refine Dv.trans (Dv.of (ak t) fun x=>?_) h.dv;have a1:=congrArg (ae · x) hdm;have a2:=congrArg (ae · x) htm;simp only[aL] at a1 a2;rw[aL,aL,aL,<- a2,<- a1];grind
  ·refine Dv.trans (Dv.of (ak rest) fun x=>?_) h.dv;have a2:=congrArg (ae · x) htm;simp only[aL] at a2;rw[aL,aL,<- a2];grind
theorem yV{b:Nat}{l:List Rat}(hl:Sml 9 b l)(l0:l≠[])(hb:b<=90):∀(n:Nat) (rest:List Rat) (plus:Bool) (out:List Rat),kf l rest out->vn n rest plus out/\∃r,kf l r (sO n rest plus out)
 |0,rest,plus,out,h=>⟨trivial,rest,h⟩
 |n+1,rest,plus,out,h=>by
  rw[vn,sO];split;·exact⟨trivial,rest,h⟩
  ·obtain⟨h1,h2,h3,h4,h5⟩:=E4 hl l0 hb h plus;obtain⟨g1,g2⟩:=yV hl l0 hb n _ (!plus) _ h5;exact⟨⟨h1,h2,h3,h4,g1⟩,g2⟩
theorem H4{b:Nat}{l:List Rat}(hl:Sml 9 b l)(l0:l≠[])(hb:b<=90):Cb (aw l)/\Sml 9 (b+8) (gw l)/\gw l≠[]/\Dv (gw l) l:=by
 obtain⟨h1,r,h2⟩:=yV hl l0 hb (l.length+1) l true [1] (E3 hl.trm l0);refine⟨⟨fS _,wT hl (by omega),by rw[aq,aA];exact h1⟩,(mH hl l0 h2.to h2.o0 h2.o1 h2.do_).1,h2.o0,h2.do_⟩
theorem Kc{b:Nat}{l:List Rat}(hl:Sml 9 b l)(hb:b<=90){x y:Rat}(hx:lq x<=QA)(hy:lq y<=QA):iM (aw l) (aG x) (aG y):=by
 have e1:QA=10000000:=rfl;have e2:QM=400000000:=rfl;have hle:=hl.len;have ne:aw l≠[]->l≠[]:=fun h e=>h (by rw[e];rfl);refine⟨hl.den.sz (by omega),by rw[aq];omega,aX _,aX _,by rw[ar];exact hx,by rw[ar];exact hy,by rw[aA];exact hl.trm,fun h0 _=>(H4 hl (ne h0) hb).1,fun h0 _ _=>?_,fun _ _=>sV hl (by omega) (by omega) (by omega)⟩;obtain⟨_,o1,o2,_⟩:=H4 hl (ne h0) hb;rw[aA];exact⟨sV o1 (by omega) (by omega) (by omega),o1.den.sz (by omega),by have:=o1.len;omega⟩
theorem L9{b:Nat}{l:List Rat}(hl:Sml 9 b l)(hb:b<=200):pR (aw l):=by
 have e1:QA=10000000:=rfl;have e3:QH=40000000000:=rfl;have hle:=hl.len;refine⟨⟨hl.den.sz (by omega),by rw[aq];omega,fun h=>by rw[aA];exact hl.trm fun e=>h (by rw[e];rfl)⟩,fun x hx=>?_⟩;rw[aA] at hx;have:=(lN hl.den hl.trm).lq x hx;omega
theorem Ma(k:Nat):(LB^k:Int)<=2^(30*k):=by
 induction k with
 |zero=>decide
 |succ k ih=>
  rw[OB,show 30*(k+1)=30*k+30 by omega,RK];have h1:LB<=(2:Int)^30:=by decide
  have h2:(0:Int)<=LB:=by decide
  have h3:(0:Int)<=2^(30*k):=O8 (QP (by decide));exact Int.mul_le_mul ih h1 h2 h3
theorem H5{b:Nat}{l:List Rat}(hl:Sml 9 b l):cL l<=30*(b+3)+1:=by
 have hb:=hl.den.pos;have h1:lq (cX l)<=b:=qt hb _ _ (by have:=ig;omega) fun x hx=>(lN hl.den hl.trm).lq x hx;have h2:=j8 (cX l) 1;have h3:=qu;have h4:=dy (cX l+1);have hk:cL l=(cL l-1)+1:=by unfold cL;omega
 have h5:=(Ce (cL l-1)).1 ((nN l (cL l-1)).2 (by omega));have h0:(0:Rat)<=cX l+1:=by have:=wS l;grind
 have h6:(cX l+1).num/((cX l+1).den:Int)<=(cX l+1).num:=SC _ (TM.2 h0);have h7:=ny (cX l+1).num;have h8:=TM.2 h0;have h9:=Ma (lw (cX l+1).num);have h10:(2:Int)^(cL l-1)<2^(30*lw (cX l+1).num):=by omega
 have h11:cL l-1<30*lw (cX l+1).num:=by
  rcases Nat.lt_or_ge (cL l-1) (30*lw (cX l+1).num) with h|h;·exact h
  ·have:(2:Int)^(30*lw (cX l+1).num)<=2^(cL l-1):=by
    exact_mod_cast PA (by decide:0<2) h
   omega
 omega
theorem Mb{n:Int}{M:Nat}(h:n.natAbs<=2^M):lw n<=M+1:=by
 refine kU ?_;have h1:(2:Int)^M<=LB^M:=by
  have:(2:Nat)^M<=1000000000^M:=SM (by decide) M;have e:(LB^M:Int)=((1000000000^M:Nat):Int):=by rw[Sb];rfl
  rw[e];exact_mod_cast this
 have h2:(0:Int)<LB^M:=QP (by decide);have h3:((n.natAbs:Nat):Int)<=2^M:=by exact_mod_cast h
 have h4:LB^M*LB=LB^M*1000000000:=rfl;rw[OB,h4];omega
theorem cells_ok{b:Nat}{l:List Rat}(hl:Sml 9 b l)(hb:b<=200){n:Int}(h0:0<=n)(h1:n<=40):nO (aw l) n:=by
 have e1:QA=10000000:=rfl;obtain⟨s1,s2,s3⟩:=sU hl hb;refine⟨s1,L9 hl hb,h0,h1,?_⟩;rw[aA];have hw:=KU n.toNat;have hbd:=H5 hl;refine⟨J3 _,by omega,fun m hm=>?_,by omega,s3⟩;have h2:=Mb hm;have h3:=mv (m:Rat) (wdN n.toNat);have h4:lq (m:Rat)<=max (lw m) 1:=by
  unfold lq;rw[Rat.num_intCast,Rat.den_intCast];show max (lw m) (lw 1)<=_;rw[jn];exact Oa _
 omega
theorem NQ{α:Type}{e:Int}{l w:List α}[DecidableEq α](h:((e !=0)||((l.length:Int) !=(w.length:Int)))=true):false=decide (e=0/\l=w):=by
 symm
 rw[decide_eq_false_iff_not];rintro⟨rfl,rfl⟩;simp at h
theorem NR{α:Type}{e:Int}{l w:List α}(h:((e !=0)||((l.length:Int) !=(w.length:Int)))=false):e=0/\l.length=w.length:=by
 simp only[PN,bne_eq_false_iff_eq] at h;exact⟨h.1,by omega⟩
theorem Nt{t:Ty}[DecidableEq t.D]{e:Int}{l w:List t.D}{k:Nat}(h0:e=0/\l.length=w.length)(hk:k<l.length)(h:¬nth t l (k:Int)=nth t w (k:Int)):false=decide (e=0/\l=w):=by
 symm
 rw[decide_eq_false_iff_not];rintro⟨_,rfl⟩;exact h rfl
theorem Kd{t:Ty}{e:Int}{l w:List t.D}{k:Nat}(h0:e=0/\l.length=w.length)(hk:k<l.length)(hg:l.take k=w.take k)(h:nth t l (k:Int)=nth t w (k:Int)):k+1<=w.length/\l.take (k+1)=w.take (k+1):=by
 have hk2:k<w.length:=by omega
 rw[gS hk,gS hk2] at h;refine⟨hk2,?_⟩;rw[Rq,Rq,AI hk,AI hk2,hg,h]
theorem Mc{t:Ty}[DecidableEq t.D]{e:Int}{l w:List t.D}{k:Nat}(h0:e=0/\l.length=w.length)(hk:k<=w.length)(hk2:¬(k:Int)<(l.length:Int))(hg:l.take k=w.take k):true=decide (e=0/\l=w):=by
 symm
 rw[decide_eq_true_iff];refine⟨h0.1,?_⟩;have h1:k=l.length:=by omega
 subst h1;rw[OD] at hg;rw[h0.2,OD] at hg;exact hg
theorem Md{p:List (List UInt8)}{n:Int}(h:fX p n):(clR p n).length<=100000:=by
 unfold clR;split
 ·rename_i he;unfold clE at he;split at he
  ·(rename_i h0;split at he;·cases he);·rename_i h1;simp only[not_or] at h1;rw[O2];exact(h.ok h0 h1.1 (by omega) (by omega)).2
  ·rename_i h0;exact absurd he h0
 ·simp
theorem KY(a b c:Int):((a==b)&&(c==0))=decide (a=b/\c=0):=by
 rw[Bool.eq_iff_iff];simp
theorem qv{q:List UInt8}(h:cM q=0)(hl:q.length<=QL):lq (cu q)<=2000:=wJ (oK h hl).2
theorem Me{b:Nat}{p:List (List UInt8)}{x y:List UInt8}(hp:Sml 9 b (dt p))(hb:b<=90)(sp:cQ p)(sx:x.length<=QL)(sy:y.length<=QL):gW p x y:=by
 have e2:QM=400000000:=rfl;refine⟨sp,sx,sy,fun h=>?_⟩;unfold ctE at h;split at h;·rename_i h0;obtain⟨_,_,_,h3,h4⟩:=mG h0;have h5:=qv h3 sx;have h6:=qv h4 sy;exact sV hp (by omega) (by omega) (by omega)
 ·rename_i h0;exact absurd h h0
theorem Ke{b:Nat}{p:List (List UInt8)}{x y:List UInt8}(hp:Sml 9 b (dt p))(hb:b<=90)(sp:cQ p)(sx:x.length<=QL)(sy:y.length<=QL):e8 p x y:=by
 have e2:QA=10000000:=rfl;refine⟨sp,sx,sy,fun h=>?_⟩;unfold sgE at h;split at h;·rename_i h0;obtain⟨_,_,_,h3,h4⟩:=mG h0;have h5:=qv h3 sx;have h6:=qv h4 sy;exact Kc hp hb (by omega) (by omega)
 ·rename_i h0;exact absurd h h0
theorem Mf(p:List (List UInt8)):rdE p []=dx p/\rdP p []=aw (dt p):=by
 have h:rdE p []=dx p:=by unfold rdE iO;split<;>simp_all
 refine⟨h,?_⟩;unfold rdP;rw[h];split;·rfl
 ·rename_i h0;unfold dt;rw[if_neg h0];rfl
theorem Mg{b:Nat}{p:List (List UInt8)}{n:Int}(hp:Sml 9 b (dt p))(hb:b<=90)(sp:cQ p)(hl:(clL p n).length<=100000):fX p n:=
 ⟨sp,fun _ _ h0 h1=>by rw[(Mf p).2];exact⟨cells_ok hp (by omega) h0 h1,hl⟩⟩
def smT(p:List (List UInt8)):Bool:=(decide (dx p≠0)||smB 9 9 p)&&decide (p.length<=1000)&&p.all (fun q=>decide (q.length<=1000))
theorem oP{p:List (List UInt8)}(h:smT p=true):cQ p/\Sml 9 82 (dt p):=by
 unfold smT at h;simp only[N9,OT,decide_eq_true_iff,Ob] at h;obtain⟨⟨h1,h2⟩,h3⟩:=h;refine⟨⟨by unfold QL;omega,fun q hq=>by have:=h3 q hq;unfold QL;omega⟩,?_⟩;rcases h1 with h1|h1
 ·unfold dt;rw[if_neg h1];exact⟨by simp,nE,nF (by omega)⟩
 ·exact(LL h1 (by omega) (by omega)).2.2
theorem Ck{x:List UInt8}(h:x.length<=1000):x.length<=QL:=by unfold QL;omega
theorem kx{p:List (List UInt8)}{x y:List UInt8}(h:smT p=true)(hx:x.length<=1000:=by decide)(hy:y.length<=1000:=by decide):gW p x y:=
 Me (oP h).2 (by omega) (oP h).1 (Ck hx) (Ck hy)
theorem gM{p:List (List UInt8)}{x y:List UInt8}(h:smT p=true)(hx:x.length<=1000:=by decide)(hy:y.length<=1000:=by decide):e8 p x y:=
 Ke (oP h).2 (by omega) (oP h).1 (Ck hx) (Ck hy)
theorem je{p:List (List UInt8)}{n:Int}(h:smT p=true)(hl:(clL p n).length<=100000):fX p n:=
 Mg (oP h).2 (by omega) (oP h).1 hl
theorem xp0:smT []=true:=by decide+kernel
theorem xp1:smT [[45,50],[48],[49]]=true:=by decide+kernel
theorem xp2:smT [[48],[45,49],[48],[49]]=true:=by decide+kernel
theorem xp3:smT [[48],[48],[49]]=true:=by decide+kernel
theorem xp4:smT [[53]]=true:=by decide+kernel
theorem xp5:smT [[48],[48],[45,49]]=true:=by decide+kernel
theorem xp6:smT [[48]]=true:=by decide+kernel
theorem xp7:smT [[49]]=true:=by decide+kernel
theorem xp8:smT [[49],[48]]=true:=by decide+kernel
theorem xp9:smT [[48],[49]]=true:=by decide+kernel
theorem Nu:smT [[45,49,47,51],[49]]=true:=by decide+kernel
theorem NS:smT [[45,49],[49]]=true:=by decide+kernel
theorem E5:smT [[45,49],[51],[45,51],[49]]=true:=by decide+kernel
theorem NU:smT [[45,49,48,48,48,48,48,48,48,48,48,48,48,49],[48],[49]]=true:=by decide+kernel
theorem Nv:smT [[49],[45,50],[49]]=true:=by decide+kernel
theorem NV:smT [[45,55]]=true:=by decide+kernel
theorem NW:smT [[49],[48],[49]]=true:=by decide+kernel
theorem NX:smT [[55]]=true:=by decide+kernel
theorem Mh:gW [] [48] [49]/\ctN [] [48] [49]=0/\ctE [] [48] [49]=2:=⟨kx xp0,by decide+kernel⟩
theorem Mi:e8 [[45,50],[48],[49]] [49] [48]/\sgN [[45,50],[48],[49]] [49] [48]=0/\sgE [[45,50],[48],[49]] [49] [48]=2:=⟨gM xp1,by decide+kernel⟩
theorem Mj:fX [[45,50],[48],[49]] 41/\clR [[45,50],[48],[49]] 41=[]/\clE [[45,50],[48],[49]] 41=2:=⟨je xp1 (by decide+kernel),by decide+kernel⟩
theorem Nw:gW [[45,50],[48],[49]] [48] [50]/\decide (ctN [[45,50],[48],[49]] [48] [50]=1/\ctE [[45,50],[48],[49]] [48] [50]=0)=true:=⟨kx xp1,by decide+kernel⟩
theorem Nx:gW [[48],[45,49],[48],[49]] [45,49] [49]/\decide (ctN [[48],[45,49],[48],[49]] [45,49] [49]=2/\ctE [[48],[45,49],[48],[49]] [45,49] [49]=0)=true:=⟨kx xp2,by decide+kernel⟩
theorem Ny:gW [[48],[45,49],[48],[49]] [45,50] [49]/\decide (ctN [[48],[45,49],[48],[49]] [45,50] [49]=3/\ctE [[48],[45,49],[48],[49]] [45,50] [49]=0)=true:=⟨kx xp2,by decide+kernel⟩
theorem Nz:gW [[48],[48],[49]] [48] [49]/\decide (ctN [[48],[48],[49]] [48] [49]=0/\ctE [[48],[48],[49]] [48] [49]=0)=true:=⟨kx xp3,by decide+kernel⟩
theorem NA:gW [[48],[48],[49]] [45,49] [48]/\decide (ctN [[48],[48],[49]] [45,49] [48]=1/\ctE [[48],[48],[49]] [45,49] [48]=0)=true:=⟨kx xp3,by decide+kernel⟩
theorem Mk:fX [[45,50],[48],[49]] 0/\decide (clE [[45,50],[48],[49]] 0=0/\clR [[45,50],[48],[49]] 0=[([45,50],1),([49],1)])=true:=⟨je xp1 (by decide+kernel),by decide+kernel⟩
theorem Ml:fX [[45,50],[48],[49]] 2/\decide (clE [[45,50],[48],[49]] 2=0/\clR [[45,50],[48],[49]] 2=[([45,54],1),([53],1)])=true:=⟨je xp1 (by decide+kernel),by decide+kernel⟩
theorem Mm:fX [[48],[45,49],[48],[49]] 0/\decide (clE [[48],[45,49],[48],[49]] 0=0/\clR [[48],[45,49],[48],[49]] 0=[([45,50],1),([45,49],1),([48],1)])=true:=⟨je xp2 (by decide+kernel),by decide+kernel⟩
theorem Mn:fX [[53]] 3/\decide (clE [[53]] 3=0/\clR [[53]] 3=[])=true:=⟨je xp4 (by decide+kernel),by decide+kernel⟩
theorem Mo:e8 [[45,50],[48],[49]] [48] [49]/\decide (sgN [[45,50],[48],[49]] [48] [49]=2/\sgE [[45,50],[48],[49]] [48] [49]=0)=true:=⟨gM xp1,by decide+kernel⟩
theorem Mp:e8 [[45,50],[48],[49]] [50] [51]/\decide (sgN [[45,50],[48],[49]] [50] [51]=1/\sgE [[45,50],[48],[49]] [50] [51]=0)=true:=⟨gM xp1,by decide+kernel⟩
theorem Mq:e8 [[45,50],[48],[49]] [48] [50]/\decide (sgN [[45,50],[48],[49]] [48] [50]=5/\sgE [[45,50],[48],[49]] [48] [50]=0)=true:=⟨gM xp1,by decide+kernel⟩
theorem H6:e8 [[48],[48],[49]] [45,49] [49]/\decide (sgN [[48],[48],[49]] [45,49] [49]=3/\sgE [[48],[48],[49]] [45,49] [49]=0)=true:=⟨gM xp3,by decide+kernel⟩
theorem H7:e8 [[48],[45,49],[48],[49]] [49] [49]/\decide (sgN [[48],[45,49],[48],[49]] [49] [49]=0/\sgE [[48],[45,49],[48],[49]] [49] [49]=0)=true:=⟨gM xp2,by decide+kernel⟩
theorem H8:e8 [] [48] [49]/\decide (sgN [] [48] [49]=0/\sgE [] [48] [49]=0)=true:=⟨gM xp0,by decide+kernel⟩
theorem H9:e8 [[48],[45,49],[48],[49]] [49] [50]/\decide (sgN [[48],[45,49],[48],[49]] [49] [50]=3/\sgE [[48],[45,49],[48],[49]] [49] [50]=0)=true:=⟨gM xp2,by decide+kernel⟩
theorem Ia:e8 [[48],[48],[45,49]] [48] [49]/\decide (sgN [[48],[48],[45,49]] [48] [49]=4/\sgE [[48],[48],[45,49]] [48] [49]=0)=true:=⟨gM xp5,by decide+kernel⟩
theorem Mr:gW [[48]] [120] [49]/\ctN [[48]] [120] [49]=0/\ctE [[48]] [120] [49]=40:=⟨kx xp6,by decide+kernel⟩
theorem Ms:gW [[49]] [] [50,47,50]/\ctN [[49]] [] [50,47,50]=0/\ctE [[49]] [] [50,47,50]=5:=⟨kx xp7,by decide+kernel⟩
theorem Mt:e8 [[49]] [49] [120]/\sgN [[49]] [49] [120]=0/\sgE [[49]] [49] [120]=5:=⟨gM xp7,by decide+kernel⟩
theorem Mu:fX [[49],[48]] (-1)/\clR [[49],[48]] (-1)=[]/\clE [[49],[48]] (-1)=40:=⟨je xp8 (by decide+kernel),by decide+kernel⟩
theorem Mv:fX [] 0/\clR [] 0=[]/\clE [] 0=2:=⟨je xp0 (by decide+kernel),by decide+kernel⟩
theorem Mw:fX [[48],[49]] (-1)/\clR [[48],[49]] (-1)=[]/\clE [[48],[49]] (-1)=2:=⟨je xp9 (by decide+kernel),by decide+kernel⟩
theorem Mx:gW [[48],[49]] [49] [48]/\ctN [[48],[49]] [49] [48]=0/\ctE [[48],[49]] [49] [48]=2:=⟨kx xp9,by decide+kernel⟩
theorem My:fX [[45,49,47,51],[49]] 0/\decide (clE [[45,49,47,51],[49]] 0=0/\clR [[45,49,47,51],[49]] 0=[([48],1)])=true:=⟨je Nu (by decide+kernel),by decide+kernel⟩
theorem Mz:fX [[45,49,47,51],[49]] 40/\decide (clE [[45,49,47,51],[49]] 40=0/\clR [[45,49,47,51],[49]] 40=[([51,54,54,53,48,51,56,55,53,57,50,53],1)])=true:=⟨je Nu (by decide+kernel),by decide+kernel⟩
theorem Ib:fX [[45,49],[49]] 3/\decide (clE [[45,49],[49]] 3=0/\clR [[45,49],[49]] 3=[([55],1)])=true:=⟨je NS (by decide+kernel),by decide+kernel⟩
theorem Ic:fX [[48],[49]] 5/\decide (clE [[48],[49]] 5=0/\clR [[48],[49]] 5=[([45,49],1)])=true:=⟨je xp9 (by decide+kernel),by decide+kernel⟩
theorem Ie:fX [[45,49],[51],[45,51],[49]] 1/\decide (clE [[45,49],[51],[45,51],[49]] 1=0/\clR [[45,49],[51],[45,51],[49]] 1=[([49],1)])=true:=⟨je E5 (by decide+kernel),by decide+kernel⟩
theorem Ig:fX [[45,49,48,48,48,48,48,48,48,48,48,48,48,49],[48],[49]] 0/\decide (clE [[45,49,48,48,48,48,48,48,48,48,48,48,48,49],[48],[49]] 0=0/\clR [[45,49,48,48,48,48,48,48,48,48,48,48,48,49],[48],[49]] 0=[([45,49,48,48,48,48,48,49],1),([49,48,48,48,48,48,48],1)])=true:=⟨je NU (by decide+kernel),by decide+kernel⟩
theorem Ih:e8 [[45,49],[51],[45,51],[49]] [48] [49]/\decide (sgN [[45,49],[51],[45,51],[49]] [48] [49]=4/\sgE [[45,49],[51],[45,51],[49]] [48] [49]=0)=true:=⟨gM E5,by decide+kernel⟩
theorem Ii:e8 [[45,49],[51],[45,51],[49]] [49] [50]/\decide (sgN [[45,49],[51],[45,51],[49]] [49] [50]=3/\sgE [[45,49],[51],[45,51],[49]] [49] [50]=0)=true:=⟨gM E5,by decide+kernel⟩
theorem Ij:e8 [[45,49],[51],[45,51],[49]] [48] [50]/\decide (sgN [[45,49],[51],[45,51],[49]] [48] [50]=5/\sgE [[45,49],[51],[45,51],[49]] [48] [50]=0)=true:=⟨gM E5,by decide+kernel⟩
theorem Ik:e8 [[49],[45,50],[49]] [48] [50]/\decide (sgN [[49],[45,50],[49]] [48] [50]=3/\sgE [[49],[45,50],[49]] [48] [50]=0)=true:=⟨gM Nv,by decide+kernel⟩
theorem Il:e8 [[49],[45,50],[49]] [50] [50]/\decide (sgN [[49],[45,50],[49]] [50] [50]=1/\sgE [[49],[45,50],[49]] [50] [50]=0)=true:=⟨gM Nv,by decide+kernel⟩
theorem Im:e8 [[45,55]] [48] [48]/\decide (sgN [[45,55]] [48] [48]=2/\sgE [[45,55]] [48] [48]=0)=true:=⟨gM NV,by decide+kernel⟩
theorem Io:e8 [[49],[48],[49]] [45,57] [57]/\decide (sgN [[49],[48],[49]] [45,57] [57]=1/\sgE [[49],[48],[49]] [45,57] [57]=0)=true:=⟨gM NW,by decide+kernel⟩
theorem Ip:gW [[55]] [45,57] [57]/\decide (ctN [[55]] [45,57] [57]=0/\ctE [[55]] [45,57] [57]=0)=true:=⟨kx NX,by decide+kernel⟩
theorem Iq:gW [[45,49],[51],[45,51],[49]] [48] [49]/\decide (ctN [[45,49],[51],[45,51],[49]] [48] [49]=1/\ctE [[45,49],[51],[45,51],[49]] [48] [49]=0)=true:=⟨kx E5,by decide+kernel⟩
theorem Ir:gW [[45,49],[51],[45,51],[49]] [49] [49]/\decide (ctN [[45,49],[51],[45,51],[49]] [49] [49]=0/\ctE [[45,49],[51],[45,51],[49]] [49] [49]=0)=true:=⟨kx E5,by decide+kernel⟩
end Go.Cm
end
section
namespace Go.Cm
open Go.RowKit
structure b5 (D:Nat->Prop) (A:World) (D':Nat->Prop) (B:World):Prop where
 size:A.heap.size<=B.heap.size
 out:∀b,D' b->D b∨A.heap.size<=b
 same:∀b,b<A.heap.size-> ¬D b->(∃o:Obj,A.heap[b]? =some o/\o.isCells=true)->B.heap[b]? =A.heap[b]?
abbrev lj(A B:World):Prop:=Bel (fun b=>A.heap.size<=b) A B
theorem lj.at{A B:World}(h:lj A B){b:Nat}(hb:b<A.heap.size):B.heap[b]? =A.heap[b]? :=h.block b hb (by simp;omega)
theorem b5.grows{D:Nat->Prop}{A B:World}(h:lj A B):b5 D A D B:=
 ⟨h.size,fun _ hb=> .inl hb,fun _ hb _ _=>h.at hb⟩
theorem b5.trans{D D' D'':Nat->Prop}{A B C:World}(h:b5 D A D' B)(k:b5 D' B D'' C):b5 D A D'' C:=by
 refine⟨Og h.size k.size,fun b hb=>?_,fun b hb hD hc=>?_⟩
 ·rcases k.out b hb with h1|h1;·exact h.out b h1
  ·exact .inr (Og h.size h1)
 ·have h1:=h.same b hb hD hc;rw[<- h1];refine k.same b (OC hb h.size) (fun e=>?_) (by rw[h1];exact hc);rcases h.out b e with h2|h2;·exact hD h2
  ·omega
theorem b5.stays{D D':Nat->Prop}{A B:World}(h:b5 D A D' B):aW D A B:=fun b hb hc=>h.same b (cg hc) hb hc
structure bS where
 P:Program
 B:av
 l:Nat
 items:List (List LV)
 J:Option Nat->(Nat->Prop)->World->Prop
structure bS.OK (t:bS):Prop where
 grow:∀g D A B,t.J g D A->lj A B->t.J g D B
 on:∀g D A,t.J g D A->t.B.On A/\∀b,D b->b<A.heap.size
 round:∀k D A vs,t.J (some k) D A->∀hk:k<t.items.length,aY (aJ D A (fun _=>undef)) t.items[k] vs->
  YieldAt (fw none) 0 t.P t.l vs.toArray A fun e B=>∃D',b5 D A D' B/\((e= .returned (.bool true)/\t.J (some (k+1)) D' B)∨(e= .returned (.bool false)/\t.J none D' B))
@[reducible] def bS.cx (t:bS)(T:Tab)(D:Nat->Prop)(w:World)(ρ0 tm:Nat->Value):Cx:=
 {P:=t.P,T:=T,O:=D,I:=fun _=>False,ρ0:=ρ0,w0:=w,r:=none,tm:=tm,q:=true}
structure bS.S (t:bS) (T:Tab) (D:Nat->Prop) (s:aa) (a:Act) (w:World):Prop where
 own:s.own=[]
 base:T.base=t.B
 st:∃ ρ0 tm,St (t.cx T D w ρ0 tm) s a w
theorem bS.S.rebase{t:bS}{T:Tab}{D:Nat->Prop}{s:aa}{a:Act}{w w':World}{ρ0 tm:Nat->Value}(hb:T.base=t.B)(h:St (t.cx T D w ρ0 tm) s a w')(ho:s.own=[]):t.S T D s a w':=by
 refine⟨ho,hb,ρ0,tm,⟨?_,h.kept,h.size,Bel.refl _ _,fun b hD hm=>?_,⟨h.small.n,h.on,fun b hb=>hb.elim,fun b v t' hp=>?_⟩,?_⟩⟩;·rw[h.marks.quiet rfl];exact Marks.nil _ _ _
 ·rcases hm with hm|hm;·have h1:=h.others b hD;have h2:=h.below.size;exact h1 (.inl (by simp only at hm h2 ⊢;omega))
  ·exact hm
 ·obtain⟨p1,p2,p3,p4⟩:=h.small.pin b v t' hp;exact⟨OC p1 h.below.size,id,p3,h.onT.2 b v t' hp⟩
 ·obtain⟨ρ,hf⟩:=h.fits;exact⟨ρ,hf.env,fun p hp=>absurd hp (by rw[ho];simp),fun p hp=>absurd hp (by rw[ho];simp),by rw[ho];exact .nil⟩
theorem bS.S.after{t:bS}{T:Tab}{D D':Nat->Prop}{s:aa}{a:Act}{w w':World}(h:t.S T D s a w)(hA:b5 D w D' w')(hon:t.B.On w')(hlt:∀b,D' b->b<w'.heap.size):t.S T D' s a w':=by
 obtain⟨ho,hb,ρ0,tm,hst⟩:=h;refine⟨ho,hb,ρ0,tm,⟨?_,hst.kept,hst.size,Bel.refl _ _,fun b hD hm=>?_,⟨hst.small.n,by rw[hb];exact hon,fun b hb=>hb.elim,fun b v t' hp=>?_⟩,?_⟩⟩;·rw[hst.marks.quiet rfl];exact Marks.nil _ _ _
 ·have:=hlt b hD;rcases hm with hm|hm;·simp only at hm;omega
  ·exact hm
 ·obtain⟨p1,p2,p3,p4⟩:=hst.small.pin b v t' hp;have hc:=hA.same b p1 p3 ⟨_,p4,rfl⟩;exact⟨OC p1 hA.size,id,fun hD=>(hA.out b hD).elim p3 (fun h1=>by simp only at p1;omega),hc.trans p4⟩
 ·obtain⟨ρ,hf⟩:=hst.fits;refine⟨ρ,fun e he=>?_,fun p hp=>absurd hp (by rw[ho];simp),fun p hp=>absurd hp (by rw[ho];simp),by rw[ho];exact .nil⟩;have h1:=hf.env e he;have hh:∀b,b<w.heap.size->hot D' ρ s.own b->hot D ρ s.own b:=by
   rw[ho];rintro b hlt (h2|⟨p,hp,_⟩)
   ·(rcases hA.out b h2 with h3|h3;·exact .inl h3);·omega
   ·cases hp
  have hs:aW (hot D ρ s.own) w w':=by
   intro b hb hc;exact hA.stays b (fun e=>hb (.inl e)) hc
  have:=eF (f:=id) (fun x v hx=>aN hh hs (fun _ _=>rfl) hx) h1;have e2:e.2.map id=e.2:=by cases e.2<;>simp[AV.map]
  rwa [e2] at this
def YJ(t:bS)(T:Tab)(c:Code)(g:Option Nat)(s:aa)(K:Exit->Option Nat->aa->Prop):Prop:=
 ∀D a w,t.J g D w->t.S T D s a w->c.wpIn (fw none) 2 t.P (fun e a' w'=>∃g' s' D',K e g' s'/\t.J g' D' w'/\t.S T D' s' a' w'/\b5 D w D' w') a w
section
variable {t:bS} {T:Tab} {g:Option Nat} {s s':aa} {K:Exit->Option Nat->aa->Prop}
theorem MA(ht:t.OK){c:Code}(h:∀X:Cx,X.P=t.P->X.T=T->X.r=none->J X c s (fun e s'=>K e g s'/\s'.own=[])):YJ t T c g s K:=by
 rintro D a w hJ ⟨ho,hb,ρ0,tm,hst⟩;refine Code.wpIn_mono (fun e a' w' h1=>?_) (h (t.cx T D w ρ0 tm) rfl rfl rfl a w hst);obtain⟨s',⟨h1,h2⟩,h3⟩:=h1;have hg:lj w w':=⟨h3.below.os,h3.below.tape,h3.below.output,h3.below.size,fun b hb hn=>h3.below.block b hb (fun e=>e.elim hn id)⟩;exact⟨g,s',D,h1,ht.grow _ _ _ _ hJ hg,bS.S.rebase hb h3 h2,b5.grows hg⟩
def Cl(t:bS)(T:Tab)(y:Code)(K:Exit->Option Nat->aa->Prop)(e:Exit)(g:Option Nat)(s:aa):Prop:=match e with
 | .normal=>YJ t T y g s K
 |e=>K e g s
theorem lk{x y:Code}(h:YJ t T x g s (Cl t T y K)):YJ t T (.seq x y) g s K:=by
 intro D a w hJ hS;refine wpIn_seq (Code.wpIn_mono (fun e a' w' ⟨g',s',D',h1,h2,h3,h4⟩=>?_) (h D a w hJ hS));cases e with
 |normal=>exact Code.wpIn_mono (fun e a' w' ⟨g',s',D',k1,k2,k3,k4⟩=>⟨g',s',D',k1,k2,k3,h4.trans k4⟩) (h1 D' a' w' h2 h3)
 |_=>exact⟨g',s',D',h1,h2,h3,h4⟩
theorem b5.refl(D:Nat->Prop)(A:World):b5 D A D A:=⟨Oa _,fun _ h=> .inl h,fun _ _ _ _=>rfl⟩
theorem oQ(h:K .normal g s):YJ t T .skip g s K:=fun _ _ _ hJ hS=>wpIn_skip ⟨_,_,_,h,hJ,hS,b5.refl _ _⟩
theorem MB{l:Nat}(h:K (.exit l) g s):YJ t T (.exit l) g s K:=fun _ _ _ hJ hS=>wpIn_exit ⟨_,_,_,h,hJ,hS,b5.refl _ _⟩
theorem sW(h:K .ret g s):YJ t T .ret g s K:=fun _ _ _ hJ hS=>wpIn_ret ⟨_,_,_,h,hJ,hS,b5.refl _ _⟩
theorem MC{c:Operand}{x y:Code}{b:Bool}(hc:leaf (aP s c)=some (.z .bool b))(h1:b=true->YJ t T x g s K)(h2:b=false->YJ t T y g s K):YJ t T (.cond c x y) g s K:=by
 intro D a w hJ hS;obtain⟨ρ0,tm,hst⟩:=hS.st;obtain⟨ρ,hf⟩:=hst.fits;have hv:=cO (H:=hot D ρ s.own) (w:=w) (ρ:=ρ) (ax hf hc);exact wpIn_cond_split hv (fun e=>h1 e D a w hJ hS) (fun e=>h2 e D a w hJ hS)
theorem bS.S.le{D:Nat->Prop}{a:Act}{w:World}(h:t.S T D s a w)(hl:Cm.le s s')(ho:s'.own=[]):t.S T D s' a w:=by
 obtain⟨ρ0,tm,hst⟩:=h.st;exact⟨ho,h.base,ρ0,tm,hst.le hl⟩
theorem NY{c:Code}(hl:le s s')(ho:s'.own=[])(h:YJ t T c g s' K):YJ t T c g s K:=fun D a w hJ hS=>h D a w hJ (hS.le hl ho)
def lR(id:Nat)(K:Exit->Option Nat->aa->Prop)(e:Exit)(g:Option Nat)(s:aa):Prop:=match e with
 | .exit i=>if i=id then K .normal g s else K (.exit i) g s
 |e=>K e g s
theorem Cn{id:Nat}{c:Code}(h:YJ t T c g s (lR id K)):YJ t T (.block id c) g s K:=by
 intro D a w hJ hS;refine wpIn_block (Code.wpIn_mono (fun e a' w' ⟨g',s',D',h1,h2,h3,h4⟩=>?_) (h D a w hJ hS));cases e with
 |exit i=>
  simp only[Exit.inBlock];simp only[lR] at h1;split at h1;·rename_i e;rw[if_pos e];exact⟨g',s',D',h1,h2,h3,h4⟩
  ·rename_i e;rw[if_neg e];exact⟨g',s',D',h1,h2,h3,h4⟩
 |_=>exact⟨g',s',D',h1,h2,h3,h4⟩
def qw{ι:Type}(f:ι->aa)(gg:ι->Option Nat)(Φ:ι->Prop)(μ:ι->Nat)(x:ι)(K:Exit->Option Nat->aa->Prop)(e:Exit)(g:Option Nat)(s:aa):Prop:=match e with
 | .normal=>∃y,le s (f y)/\g=gg y/\Φ y/\μ y<μ x
 |e=>K e g s
theorem MD{ι:Type}(f:ι->aa)(gg:ι->Option Nat)(Φ:ι->Prop)(μ:ι->Nat){c:Code}(x₀:ι)(h₀:le s (f x₀))(hg:g=gg x₀)(hΦ:Φ x₀)(hown:∀x,(f x).own=[])(hround:∀x,Φ x->YJ t T c (gg x) (f x) (qw f gg Φ μ x K)):YJ t T (.loop c) g s K:=by
 intro D a w hJ hS;subst hg;refine ra (fun n a' w'=>∃x D',μ x=n/\Φ x/\t.J (gg x) D' w'/\t.S T D' (f x) a' w'/\b5 D w D' w') (μ x₀) ⟨x₀,D,rfl,hΦ,hJ,hS.le h₀ (hown _),b5.refl _ _⟩ ?_;rintro n a w ⟨x,D1,rfl,hx,hJ1,hS1,hA1⟩;refine Code.wpIn_mono (fun e a' w' ⟨g',s',D',h1,h2,h3,h4⟩=>?_) (hround x hx D1 a w hJ1 hS1);cases e with
 |normal=>
  obtain⟨y,k1,rfl,k2,k3⟩:=h1;exact⟨μ y,k3,y,D',rfl,k2,h2,h3.le k1 (hown _),hA1.trans h4⟩
 |_=>exact⟨g',s',D',h1,h2,h3,hA1.trans h4⟩
def yW(t:bS)(T:Tab)(ops:List Oper)(o:Oper)(g:Option Nat)(s:aa)(K:Option Nat->aa->Prop):Prop:=
 ∀(Q:Exit->Act->World->Prop) D a w,t.J g D w->t.S T D s a w->∀(K':Act->World->Prop),(∀a' w',(∃g' s' D',K g' s'/\t.J g' D' w'/\t.S T D' s' a' w'/\b5 D w D' w')->K' a' w')->
  if Region.wanted o (yielded ops.toArray a.tmps) then o.wpIn (fw none) 2 t.P a w K' Q else (∀f,o.about t.P w a.eval=some f->(fw none).fn f)/\K' (a.put o.dst undef) w
def YL(t:bS)(T:Tab)(ops l:List Oper)(g:Option Nat)(s:aa)(K:Option Nat->aa->Prop):Prop:=
 ∀(Q:Exit->Act->World->Prop) D a w,t.J g D w->t.S T D s a w->(∀a' w',(∃g' s' D',K g' s'/\t.J g' D' w'/\t.S T D' s' a' w'/\b5 D w D' w')->Q .normal a' w')->wpListIn (fw none) 2 t.P ops.toArray Q l a w
theorem AX{ops:List Oper}{K:Option Nat->aa->Prop}(h:K g s):YL t T ops [] g s K:=fun _ _ _ _ hJ hS hQ=>hQ _ _ ⟨_,_,_,h,hJ,hS,b5.refl _ _⟩
theorem kg{ops rest:List Oper}{o:Oper}{K K1:Option Nat->aa->Prop}(h1:yW t T ops o g s K1)(h2:∀g' s',K1 g' s'->YL t T ops rest g' s' K):YL t T ops (o::rest) g s K:=by
 intro Q D a w hJ hS hQ;refine wpListIn_step fun K' hK'=>?_;refine h1 Q D a w hJ hS K' fun a' w' ⟨g',s',D',k1,k2,k3,k4⟩=>hK' _ _ (h2 g' s' k1 Q D' a' w' k2 k3 fun a'' w'' ⟨g'',s'',D'',l1,l2,l3,l4⟩=>hQ _ _ ⟨g'',s'',D'',l1,l2,l3,k4.trans l4⟩)
theorem wU(ht:t.OK)(hG:aV t.P T){ops post:List Oper}(pre:List Oper){C:Prop}{s1:aa}{K:Option Nat->aa->Prop}(he:exec T ops pre s=some (C,s1))(hC:C)(ho:s1.own=[])(h:YL t T ops post g s1 K):YL t T ops (pre++post) g s K:=by
 rintro Q D a w hJ ⟨ho0,hb,ρ0,tm,hst⟩ hQ;have key:∀(l:List Oper) {s0:aa} {a0:Act} {w0:World} {C0:Prop},St (t.cx T D w ρ0 tm) s0 a0 w0->exec T ops l s0=some (C0,s1)->C0->
   (∀a' w',St (t.cx T D w ρ0 tm) s1 a' w'->wpListIn (fw none) 2 t.P ops.toArray Q post a' w')->wpListIn (fw none) 2 t.P ops.toArray Q (l++post) a0 w0:=by
  intro l;induction l with
  |nil=>
   intro s0 a0 w0 C0 h0 he0 hC0 hQ;simp only[exec] at he0;cases he0;exact hQ _ _ h0
  |cons o1 l ih=>
   intro s0 a0 w0 C0 h0 he0 hC0 hQ;simp only[exec] at he0;split at he0
   ·(rename_i C1 s2 h1;split at he0;·rename_i C2 s3 h2;cases he0;refine wpListIn_step fun K' hK'=>?_;exact jS (X:=t.cx T D w ρ0 tm) hG.tab hG.cons h0 h1 hC0.1 (fun a' w' h'=>hK' _ _ (ih h' h2 hC0.2 hQ)));·cases he0
   ·cases he0
 refine key pre hst he hC fun a1 w1 h1=>?_;have hg:lj w w1:=⟨h1.below.os,h1.below.tape,h1.below.output,h1.below.size,fun b hb hn=>h1.below.block b hb (fun e=>e.elim hn id)⟩;exact h Q D a1 w1 (ht.grow _ _ _ _ hJ hg) (bS.S.rebase hb h1 ho) fun a' w' ⟨g',s',D',l1,l2,l3,l4⟩=>hQ _ _ ⟨g',s',D',l1,l2,l3,(b5.grows hg).trans l4⟩
theorem yX{id:Nat}{ops:Array Oper}(h:YL t T ops.toList ops.toList g s (fun g s=>K .normal g s)):YJ t T (.region id ops false) g s K:=by
 intro D a w hJ hS;have:=h (fun e a' w'=>∃g' s' D',K e g' s'/\t.J g' D' w'/\t.S T D' s' a' w'/\b5 D w D' w') D a w hJ hS fun a' w' h=>h;exact wpIn_region_list (by simpa using this)
theorem Co(ht:t.OK)(hG:aV t.P T){id:Nat}{ops:Array Oper}{C:Prop}(he:exec T ops.toList ops.toList s=some (C,s'))(hC:C)(ho:s'.own=[])(hK:K .normal g s'):YJ t T (.region id ops false) g s K:=
 yX (by have:=wU (post:=[]) (K:=fun g s=>K .normal g s) ht hG ops.toList he hC ho (AX hK);simpa using this)
theorem ME(ht:t.OK)(hG:aV t.P T){id:Nat}{ops:Array Oper}{C:Prop}{recs:List Rec}(he:trace T ops.toList ops.toList s=some (C,s',recs))(hor:cV ops.toList recs=true)
  (hf:(recs.flatMap Rec.news).all (fun x=> !s.refs.contains x)=true) (hd:(distinct (s'.env.map Prod.fst)&&distinct (s'.own.map Prod.fst))=true) (hC:C) (ho:s'.own=[]) (hK:K .normal g s'):YJ t T (.region id ops true) g s K:=
 MA ht fun X hP hT _=>kL (by rw[hP,hT];exact hG) (by rw[hT];exact he) hor hf hd hC ⟨hK,ho⟩
theorem yY{P:Program}{o:Oper}{c:Call}{a:Act}{w:World}{l:Nat}{x:Operand}(hop:o.op= .call c)(hcal:c.callee= .value x)(hx:a.eval x= .func (.yield l) #[] #[]):(execOp a.eval o).run P w=(Instr.yield l (c.args.map a.eval)).run P w:=by
 obtain⟨callee,args,types⟩:=c;simp only at hcal;subst hcal;unfold execOp;rw[hop];simp[resolve,hx,Deferred.ofValue,invoke]
end
end Go.Cm
end
section
namespace Go.Cm
open Go.RowKit
theorem RoundIn.wide{n m:Nat}{r:Option Nat}{P:Program}{l:Nat}{f:FuncId}{tmps:Array Value}{asg body:Code}{w:World}{R:Ending->World->Prop}(h:RoundIn (fw r) n P l f tmps asg body w R):RoundIn (fw r) m P l f tmps asg body w R:=
 ⟨h.1,fun c cs _=>h.2 c cs (room_wide _)⟩
theorem yZ{P:Program}{o:Oper}{a:Act}{w w':World}{l:Nat}{f:FuncId}{tmps:Array Value}{asg body:Code}{r:Option Nat}{n:Nat}{K:Act->World->Prop}{Q:Exit->Act->World->Prop}(h:(execOp a.eval o).run P w= .ok (.round l f tmps asg body) w')
  (hk:RoundIn (fw r) 0 P l f tmps asg body w' fun e w''=>∃v,e= .returned v/\K (a.put o.dst v) w''):o.wpIn (fw r) n P a w K Q:=by
 refine⟨fun _ _=>trivial,?_⟩;rw[Oper.semAt_eq _ _ _ (mW h (by simp)),h,Oper.uponIn_round];refine⟨fun hd=>by simp[fw,Fence.wide] at hd,(RoundIn.wide hk).mono ?_⟩;rintro e w'' ⟨v,rfl,hk⟩;exact hk
section
variable {t:bS} {T:Tab} {g:Option Nat} {s s':aa} {K:Exit->Option Nat->aa->Prop}
theorem oR{X:Cx}{a:Act}{w:World}{ρ:Nat->Value}(hf:Fits X s a w ρ):∀{l:List Operand} {xs:List LV},l.map (fun y=>leaf (aP s y))=xs.map some->aY (aJ (hot X.O ρ s.own) w ρ) xs (l.map a.eval)
 | [],[],_=>trivial
 | [],_::_,h=>by simp at h
 |_::_,[],h=>by simp at h
 |y::l,x::xs,h=>by
  simp only[O6,P5] at h;exact⟨ax hf h.1,oR hf h.2⟩
def LV.free:LV->Bool
 | .z _ _=>true
 | .val _=>true
 |_=>false
theorem aJ.free{H H':Nat->Prop}{w:World}{ρ ρ':Nat->Value}(hh:∀b,H' b->H b){x:LV}{v:Value}(hx:x.free=true)(h:aJ H w ρ x v):aJ H' w ρ' x v:=by
 refine aN (fun b _ hb=>hh b hb) (aW.refl _ _) (fun id hid=>?_) h;cases x<;>simp_all [LV.free,LV.isOf]
theorem oS{H H':Nat->Prop}{w:World}{ρ ρ':Nat->Value}(hh:∀b,H' b->H b):∀{xs:List LV} {vs:List Value},xs.all LV.free=true->aY (aJ H w ρ) xs vs->aY (aJ H' w ρ') xs vs
 | [],[],_,_=>trivial
 | [],_::_,_,h=>h.elim
 |_::_,[],_,h=>h.elim
 |x::xs,v::vs,hx,h=>by
  simp only[Qg,N9] at hx;exact⟨h.1.free hh hx.1,oS hh hx.2 h.2⟩
theorem bS.S.put{D:Nat->Prop}{a:Act}{w:World}(h:t.S T D s a w){d:Nat}{x:AV}{v:Value}(hd:T.ok d=true)(hx:∀ ρ,fL D w ρ x v):t.S T D (s.put d x) (a.put (some d) v) w:=by
 obtain⟨ho,hb,ρ0,tm,hst⟩:=h;obtain⟨ρ,hf⟩:=hst.fits;refine⟨ho,hb,ρ0,tm,hst.put (X:=t.cx T D w ρ0 tm) hf hd ?_⟩;have hh:hot (t.cx T D w ρ0 tm).O ρ s.own=D:=by
  funext b;rw[ho];simp[hot]
 rw[hh];exact hx ρ
theorem kh{H:Nat->Prop}{w:World}{ρ:Nat->Value}(b:Bool):aJ H w ρ (.z .bool b) (.bool b):=⟨rfl,rfl⟩
def vx(ops:List Oper)(s:aa)(o:Oper):Option Bool:=match o.guard with
 |none=>some true
 |some (j,w)=>guardOf ops s j w
theorem sX{X:Cx}{a:Act}{w:World}{ρ:Nat->Value}(hf:Fits X s a w ρ){ops:List Oper}{o:Oper}{b:Bool}(h:vx ops s o=some b):Region.wanted o (yielded ops.toArray a.tmps)=b:=by
 unfold vx at h;split at h;·rename_i hg;cases h;simp[Region.wanted,hg]
 ·rename_i j w hg;exact qZ hf hg h
theorem y0(ht:t.OK){ops:List Oper}{o:Oper}{c:Call}{x:Operand}{d k:Nat}{K1:Option Nat->aa->Prop}(hop:o.op= .call c)(hcal:c.callee= .value x)(hd:o.dst=some d)(hdN:T.ok d=true)
  (hw:vx ops s o=some true) (hx:leaf (aP s x)=some (.val (.func (.yield t.l) #[] #[]))) (hg:g=some k) {it:List LV} (hit:t.items[k]? =some it) (hargs:c.args.toList.map (fun y=>leaf (aP s y))=it.map some) (hz:it.all LV.free=true)
  (h1:K1 (some (k+1)) (s.put d (.l (.z .bool true)))) (h2:K1 none (s.put d (.l (.z .bool false)))):yW t T ops o g s K1:=by
 intro Q D a w hJ hS K' hK';subst hg;obtain⟨ho,hb,ρ0,tm,hst⟩:=id hS;obtain⟨ρ,hf⟩:=hst.fits;rw[if_pos (sX hf hw)];have hk:k<t.items.length:=(Oh.1 hit).1;obtain rfl:it=t.items[k]:=((Oh.1 hit).2).symm;have hxv:a.eval x= .func (.yield t.l) #[] #[]:=ax hf hx;have hA:=oS (H':=D) (ρ':=fun _=>undef) (fun b hb=> .inl hb) hz (oR hf hargs);obtain⟨fn,tmps,asg,body,hy,hR⟩:=ht.round k D w _ hJ hk hA;have hvs:(c.args.toList.map a.eval).toArray=c.args.map a.eval:=by apply Qk;simp
 rw[hvs] at hy;refine yZ ((yY hop hcal hxv).trans hy) (hR.mono ?_);rintro e B ⟨D',hAf,(⟨rfl,hJ'⟩|⟨rfl,hJ'⟩)⟩;·obtain⟨hon,hlt⟩:=ht.on _ _ _ hJ';refine⟨_,rfl,hK' _ _ ⟨_,_,D',h1,hJ',?_,hAf⟩⟩;rw[hd];exact(hS.after hAf hon hlt).put hdN (fun ρ=>kh (ρ:=ρ) true)
 ·obtain⟨hon,hlt⟩:=ht.on _ _ _ hJ';refine⟨_,rfl,hK' _ _ ⟨_,_,D',h2,hJ',?_,hAf⟩⟩;rw[hd];exact(hS.after hAf hon hlt).put hdN (fun ρ=>kh (ρ:=ρ) false)
theorem Cp{ops:List Oper}{o:Oper}{d:Nat}{K1:Option Nat->aa->Prop}(hd:o.dst=some d)(hdN:T.ok d=true)(hw:vx ops s o=some false)(v:LV)(h1:K1 g (s.put d (.g false v))):yW t T ops o g s K1:=by
 intro Q D a w hJ hS K' hK';obtain⟨ho,hb,ρ0,tm,hst⟩:=id hS;obtain⟨ρ,hf⟩:=hst.fits;rw[if_neg (by rw[sX hf hw];simp)];refine⟨fun _ _=>trivial,hK' _ _ ⟨_,_,D,h1,hJ,?_,b5.refl _ _⟩⟩;rw[hd];exact hS.put hdN (x:= .g false v) (fun ρ=>⟨fun h=>absurd h (by simp),fun _=>rfl⟩)
def Cq(t:bS)(f:FuncId)(g:Option Nat)(args:List LV)(caps:List Value)(R:Option Nat->Value->Prop):Prop:=
 ∀D w vals,t.J g D w->aY (aJ D w (fun _=>undef)) args vals->Calls t.P f (vals++caps).toArray w fun e w'=>∃v g' D',e= .returned v/\R g' v/\t.J g' D' w'/\b5 D w D' w'
theorem Kf(ht:t.OK){ops:List Oper}{o:Oper}{c:Call}{x:Operand}{d:Nat}{f:FuncId}{fn:Func}{caps:List Value}{args:List LV}{K1:Option Nat->aa->Prop}{R:Option Nat->Value->Prop}(hop:o.op= .call c)(hcal:c.callee= .value x)(hd:o.dst=some d)(hdN:T.ok d=true)
  (hw:vx ops s o=some true) (hx:leaf (aP s x)=some (.val (.func (.func f) #[] caps.toArray))) (hfn:t.P.funcs[f]? =some fn) (hname:(fn.name== "runtime.NumGoroutine")=false) (hbody:fn.body.isNone=false)
  (hargs:c.args.toList.map (fun y=>leaf (aP s y))=args.map some) (hz:args.all LV.free=true) (hcall:Cq t f g args caps R) (hR:∀g' v,R g' v->∃b:Bool,v= .bool b/\K1 g' (s.put d (.l (.z .bool b)))):yW t T ops o g s K1:=by
 intro Q D a w hJ hS K' hK';obtain⟨ho,hb,ρ0,tm,hst⟩:=id hS;obtain⟨ρ,hf⟩:=hst.fits;rw[if_pos (sX hf hw)];have hxv:a.eval x= .func (.func f) #[] caps.toArray:=ax hf hx;have hA:=oS (H':=D) (ρ':=fun _=>undef) (fun b hb=> .inl hb) hz (oR hf hargs);have hexec:(execOp a.eval o).run t.P w= .ok (.enter f ((c.args.toList.map a.eval)++caps).toArray) w:=by
  obtain⟨callee,args,types⟩:=c;simp only at hcal;subst hcal;unfold execOp;rw[hop];have hn:¬fn.name= "runtime.NumGoroutine":=by simpa using hname
  have hbn:¬fn.body=none:=by intro e;rw[e] at hbody;cases hbody
  have hvs:args.map a.eval++caps.toArray=(args.toList.map a.eval++caps).toArray:=by apply Qk;simp
  simp[resolve,hxv,Deferred.ofValue,invoke,callFunc,hfn,hn,hbn,hvs]
 refine pb hexec ((hcall D w _ hJ hA).mono ?_);rintro e B ⟨v,g',D',rfl,hRv,hJ',hAf⟩;obtain⟨b,rfl,hK1⟩:=hR _ _ hRv;obtain⟨hon,hlt⟩:=ht.on _ _ _ hJ';refine⟨_,rfl,hK' _ _ ⟨_,_,D',hK1,hJ',?_,hAf⟩⟩;rw[hd];exact(hS.after hAf hon hlt).put hdN (fun ρ=>kh (ρ:=ρ) b)
def Is(T:Tab)(fn:Func)(R:Option Nat->List RV->Prop)(e:Exit)(g:Option Nat)(s:aa):Prop:=(e= .normal∨e= .ret)/\∃rs,R g rs/\nc T s (dH T s fn.results.toList rs) fn.results.toList rs
theorem sY(hT:cT t.P T)(ht:t.OK)(hbase:T.base=t.B){f:FuncId}{fn:Func}{code:Code}{args:List LV}{vals:List Value}{R:Option Nat->List RV->Prop}{R':Option Nat->Value->Prop}(hf:t.P.funcs[f]? =some fn)(hb:fn.body=some code)(hN:T.N=fn.ntmps)(hkeep:T.keep=[])(hlen:args.length<=T.N)
  {D:Nat->Prop} {w:World} (hJ:t.J g D w) (hall:aY (aJ D w (fun _=>undef)) args vals)
  (hpin:∀b v ty,get? T.pins b=some (v,ty)->b<w.heap.size/\ ¬D b/\w.heap[b]? =some (.cells #[v] ty (0,0)))
  (hfree:args.all LV.free=true)
  (hR:∀g' rs H M w vs,R g' rs->aY (jP H w M) rs vs->R' g' (pV vs))
  (h:YJ t T code g {env:=aD 0 args,own:=[]} (Is T fn R)):Calls t.P f vals.toArray w fun e w'=>∃v g' D',e= .returned v/\R' g' v/\t.J g' D' w'/\b5 D w D' w':=by
 obtain⟨hon,hlt⟩:=ht.on _ _ _ hJ;have hal:=hall.length;refine CallsIn.calls (callsIn_of_wp_marks (F:=fw none) (n:=2) hf hb trivial ?_) (fun k=>room_wide k);have hS:t.S T D {env:=aD 0 args,own:=[]} {tmps:=vals.toArray++Ov (fn.ntmps-vals.toArray.size) undef,defers:=[]} w:=by
  refine⟨rfl,hbase,fun _=>undef,fun _=>undef,⟨Marks.nil _ _ _,fun t ht=>by rw[hkeep] at ht;simp at ht,?_,Bel.refl _ _,fun b hD hm=>?_,⟨hT.small,by rw[hbase];exact hon,fun b hb=>hb.elim,fun b v ty hp=>?_⟩,fun _=>undef,fun e he=>?_,fun p hp=>absurd hp (by simp),fun p hp=>absurd hp (by simp),.nil⟩⟩;·simp only[Array.size_append,Array.size_replicate,OQ];rw[hN] at hlen ⊢;omega
  ·(have:=hlt b hD;rcases hm with hm|hm;·simp only at hm;omega);·exact hm
  ·obtain⟨p1,p2,p3⟩:=hpin b v ty hp;exact⟨p1,id,p2,p3⟩
  ·obtain⟨k,hk,rfl⟩:=mm he;obtain⟨v,hv1,hv2⟩:=hall.get (AI hk);(have hkv:k<vals.toArray.size:=by have:=(Oh.1 hv1).1;simpa using this);have hget:(vals.toArray++Ov (fn.ntmps-vals.toArray.size) undef).getD (0+k) undef=v:=by
    rw[Oz,Array.getD_eq_getD_getElem?,Array.getElem?_append_left hkv];(have:vals.toArray[k]? =some v:=by simpa using hv1);rw[this];rfl
   (simp only;rw[hget];have hmem:(args[k]).free=true:=Ob.1 hfree _ (OE hk);refine hv2.free (fun b hb=>?_) hmem;rcases hb with hb|⟨p,hp,_⟩;·exact hb);·simp at hp
 refine Code.wpIn_mono (fun e a w' ⟨g',s',D',⟨he,rs,hRs,hres⟩,hJ',hS',hAf⟩=>?_) (h D _ w hJ hS);obtain⟨ho',hb',ρ0,tm,hst⟩:=hS';obtain⟨ρ,hfit⟩:=hst.fits;have hq:a.defers=[]:=hst.marks.quiet rfl;obtain⟨vs,g1,g2,g3,g4,g5⟩:=re (X:=t.cx T D' w' ρ0 tm) hT hfit hst.others hst.below.size _ _ _ hres;have hfin:LeavesInM (fw none) 2 t.P fn a.tmps (fun e w'=>∃v g' D',e= .returned v/\R' g' v/\t.J g' D' w'/\b5 D w D' w') a.defers .returning w':=by
  rw[hq];exact⟨pV vs,po g1,pV vs,g',D',rfl,hR _ _ _ _ _ _ hRs (g5 (fun _=>False) (fun _ h=>h.elim) (fun _ _ _ _ _ _ _ h=>h.elim)),hJ',hAf⟩
 rcases he with rfl|rfl;·exact hfin
 ·exact hfin
end
end Go.Cm
end
section
namespace Go.Cm
open Go.RowKit
theorem bX.backD{X:Cx}{a:Act}{w:World}{H E:Nat->Prop}{z:aa}{A B:World}{ρ:Nat->Value}{y:aa}{ks:List Nat}{a1 a3:Act}{l:Nat}(h:bX X a w H E y A ρ)
  (hkept:∀t∈ks,a1.tmps.getD t undef=a.tmps.getD t undef) (hz:z.env.all (fun e=>ks.contains e.1)=true) {s:aa} (hle:le s z)
  (h3:St {XE X E with T:={X.T with keep:=ks},I:=fun b=>∃p∈y.own,Blk (ρ p.1) b,w0:=A,r:=some l,tm:=fun t=>a1.tmps.getD t undef} s a3 B):∃ ρ',bX X a w H E z B ρ'/\KeepsOthers A B/\(∀p∈z.own,∀b,Blk (ρ' p.1) b->A.heap.size<=b∨∃q∈y.own,Blk (ρ q.1) b)/\(∀b,b<A.heap.size-> ¬(∃q∈y.own,Blk (ρ q.1) b)->B.heap[b]? =A.heap[b]?):=by
 obtain⟨ρ3,hf3⟩:=h3.fits;have hf4:=hf3.le hle;have hko:KeepsOthers A B:=KeepsOthers.of_bel h3.below (fun b hb hm=>by
  rcases hm with hm|⟨p,hp,hpb⟩;·simp only at hm;omega
  ·exact(h.fits.own p hp).cells hpb)
 have hM:∀b,Cx.M {XE X E with T:={X.T with keep:=ks},I:=fun b=>∃p∈y.own,Blk (ρ p.1) b,w0:=A,r:=some l,tm:=fun t=>a1.tmps.getD t undef} b->X.M b:=by
  rintro b (hb|⟨p,hp,hpb⟩);·have:=h.bel.size;simp only at hb;exact .inl (by omega)
  ·exact((h.fits.own p hp).lt hpb).1
 have hI:∀b,Cx.M {XE X E with T:={X.T with keep:=ks},I:=fun b=>∃p∈y.own,Blk (ρ p.1) b,w0:=A,r:=some l,tm:=fun t=>a1.tmps.getD t undef} b->w.heap.size<=b∨H b:=by
  rintro b (hb|⟨p,hp,hpb⟩);·have:=h.keeps.size;simp only at hb;exact .inl (by omega)
  ·exact h.own p hp b hpb
 refine⟨_,⟨⟨fun e he=>?_,fun p hp=>?_,hf4.io,hf4.apart⟩,h.bel.trans h3.below (fun j _ hm=>hM j hm),fun p hp b hb=>hI b ((hf4.own p hp).lt hb).1,h.keeps.trans hko,fun b hb hc=>?_⟩,hko,fun p hp b hb=>?_,fun b hb hn=>?_⟩
 ·have h5:=hf4.env e he;have hmem:e.1∈ks:=by simpa using Ob.1 hz e he
  have h6:=h3.kept e.1 hmem;rw[h6] at h5;simp only at h5;rw[hkept e.1 hmem] at h5;exact h5
 ·have:=(hf4.own p hp).moved (H':=hot (XE X E).O (bT ρ3 s.own) z.own) (ρ':=bT ρ3 s.own) (k:=p.1) (f:=id) (M':=X.M) (fun _ _ h=>h) (fun _ _ h=>h) rfl (fun b hb=>hM b ((hf4.own p hp).lt hb).1);rw[aB.map_id] at this;exact this
 ·have h1:=h.stays b hb hc;have hlt:=cg hc;refine Eq.trans (h3.below.block b ?_ ?_) h1;·have:=h.keeps.size;simp only;omega
  ·(intro hm;rcases hI b hm with h7|h7;·omega);·exact hb (.inl h7)
 ·exact((hf4.own p hp).lt hb).1.elim .inl .inr
 ·refine h3.below.block b hb ?_;rintro(hm|hm);·simp only at hm;omega
  ·exact hn hm
theorem E6{X:Cx}(hr:X.calm){s:aa}{K:Exit->aa->Prop}{g:Operand}{ps:Array Tmp}{assign body:Code}{gf:FuncId}
  {items:List (List LV)} (henters:∀args w,(callFunc gf args).run X.P w= .ok (.enter gf args) w) (hdata:∀it∈items,it.length=ps.size/\it.all LV.isZ=true) {ms:List (Nat×Operand)} (hms:fN assign=some ms) (ks:List Nat)
  (hk1:ks.all (fun t=> !ps.toList.contains t&& !(ms.map Prod.fst).contains t)=true) (hps:ps.toList.all (fun t=>decide (t<X.T.N))=true)
  {ι:Type} (f:Nat->ι->aa) (Φ:Nat->ι->Prop) (x₀:ι) (h₀:le s (f 0 x₀))
  (hseq:∀(a:Act) (w:World) (ρ:Nat->Value),St X s a w->Fits X s a w ρ->∃(lb:List Value),a.eval g= .func (.func gf) #[] lb.toArray/\
   ∀(t:bS) (D:Nat->Prop) (W:World),t.OK->t.P=X.P->t.B=X.T.base->t.items=items->Below w.heap.size w W->(∀b,D b->hot X.O (bT ρ s.own) (f 0 x₀).own b)->t.J (some 0) D W->
    Calls X.P gf (#[.func (.yield t.l) #[] #[]]++lb.toArray) W fun e W'=>∃v g' D',e= .returned v/\t.J g' D' W'/\(g'=some items.length∨g'=none)) (hΦ:Φ 0 x₀) (hks:∀k x,(f k x).env.all (fun e=>ks.contains e.1)=true)
  (hround:∀k (hk:k<items.length) (x:ι),Φ k x->∃s1,cP X.T.N (cq (f k x) (ps.toList.zip items[k])) ms=some s1/\
   ∀X':Cx,X'.P=X.P->X'.T={X.T with keep:=ks}->J X' body s1 (kN f Φ ks K k))
  (hdone:∀x,Φ items.length x->K .normal (f items.length x)):J X (.rangeFunc g ps assign body) s K:=by
 intro a w hst;obtain⟨ρ,hf⟩:=hst.fits;have hHlt':∀b,hot X.O (bT ρ s.own) (f 0 x₀).own b->b<w.heap.size:=fun b hb=>hf.hot_lt hst.others hst.below (gp h₀ hb);obtain⟨E,hEf⟩:∃E:Nat->Prop,∀b,¬E b:=⟨fun _=>False,fun _ h=>h⟩;have hseq':=hseq a w ρ hst hf;obtain⟨H,hH⟩:∃H,H=hot (fun _=>False) (bT ρ s.own) (f 0 x₀).own:=⟨_,rfl⟩;have hHX:∀b,H b->hot X.O (bT ρ s.own) (f 0 x₀).own b:=fun b hb=>by rw[hH] at hb;exact hb.elim False.elim .inr
 obtain⟨lb,hlb1,hsq⟩:=hseq';have hEM:∀b,E b->X.M b:=fun b hb=>absurd hb (hEf b);have hEw:∀b,E b->∃o:Obj,w.heap[b]? =some o/\o.isCells=true:=fun b hb=>absurd hb (hEf b);have hEH:∀b,E b-> ¬H b:=fun b hb=>absurd hb (hEf b);have hw0:X.w0.heap.size<=w.heap.size:=hst.below.size;have hout0:bX X a w H E (f 0 x₀) w (bT ρ s.own):=by
  have h1:Fits (XE X E) (f 0 x₀) a w (bT ρ s.own):=Fits.leO h₀ hf (fun b _ hb=>by
   (rcases hb with(hb|hb)|hb;·exact .inl hb);·exact absurd hb (hEf b)
   ·exact gp h₀ (.inr hb))
  exact⟨h1,hst.below,fun p hp b hb=> .inr (by rw[hH];exact db hp hb),KeepsOthers.refl _,aW.refl _ _⟩
 refine wpIn_rangeFunc ?_;intro fn hfn;have hround0:(fw X.r).round=none:=by rw[hr.1];rfl
 rw[hround0];obtain⟨rec,hrec⟩:∃rec:LoopState->Option Code->Loop,rec=fun st pe=>{state:=st,pending:=pe,fn,tmps:=a.tmps,params:=ps,assign,body,defers:=w.heap.size}:=⟨_,rfl⟩;obtain⟨W1,hW1⟩:∃W1,(w.alloc (.deferred (some []))).alloc (.loop (rec .ready none))=W1:=⟨_,rfl⟩;have hsz1:W1.heap.size=w.heap.size+2:=by rw[<- hW1];simp
 have hL1:W1.heap[w.heap.size+1]? =some (.loop (rec .ready none)):=by
  rw[<- hW1];have:=World.alloc_heap_new (w.alloc (.deferred (some []))) (.loop (rec .ready none));rwa [World.size_alloc] at this
 have hD1:W1.heap[w.heap.size]? =some (.deferred (some [])):=by
  rw[<- hW1];exact(Below.heap_alloc _ _ _ (by simp)).trans (World.alloc_heap_new w _)
 have hb1:Below w.heap.size w W1:=by rw[<- hW1];exact((Below.refl _ w).alloc (Oa _) _).alloc (by simp) _
 have hout1:bX X a w H E (f 0 x₀) W1 (bT ρ s.own):=by
  rw[<- hW1];exact(hout0.abide hw0 (World.grownBy_alloc _ _ none) (by simp)).abide hw0 (World.grownBy_alloc _ _ none) (by simp)
 refine⟨w.heap.size+1,[{target:= .collected w.heap.size,args:= #[]}],W1,{target:= .fn (.func gf) lb.toArray,args:= #[.func (.yield (w.heap.size+1)) #[] #[]]},W1,gf,
  #[.func (.yield (w.heap.size+1)) #[] #[]]++lb.toArray,W1,?_,?_,fun _ _=>trivial,?_,fun h=>by simp[fw,Fence.wide] at h,?_⟩
 ·rw[<- hW1,hrec];exact run_enterLoop_outer _ _ _ _ _
 ·simp only[resolve,hlb1];simp[go_sem]
 ·simp[invoke,go_sem,henters]
 have hfw:fw X.r=fw none:=by rw[hr.1]
 rw[hfw];have hkeptA:∀(vs:List Value) (act0:Act),act0.tmps=((ps.toList.zip vs).foldl (fun(t:Array Value) (p:Nat×Value)=>t.setIfInBounds p.1 p.2) a.tmps)->∀t∈ks,(bp act0 ms).tmps.getD t undef=a.tmps.getD t undef:=by
  intro k act0 h0 t ht;have h1:=Ob.1 hk1 t ht;simp only[N9,Bool.not_eq_true',List.contains_eq_mem,decide_eq_false_iff_not] at h1;rw[gD ms _ h1.2,h0,jB];intro hm;obtain⟨p,hp,rfl⟩:=Ot.1 hm;exact h1.1 (QT hp).1
 have hmain:∀(k:Nat) (D:Nat->Prop) (W:World) (vs:List Value) (x:ι) (ρx:Nat->Value),Φ k x->bX X a w H E (f k x) W ρx->D=hot (XE X E).O ρx (f k x).own->W.heap[w.heap.size+1]? =some (.loop (rec .ready none))->W.heap[w.heap.size]? =some (.deferred (some []))->∀hkN:k<items.length,aY (aJ D W (fun _=>undef)) items[k] vs->
   YieldAt (fw none) 0 X.P (w.heap.size+1) vs.toArray W fun e B=>∃D',b5 D W D' B/\
    ((e= .returned (.bool true)/\(∃x ρ,Φ (k+1) x/\bX X a w H E (f (k+1) x) B ρ/\D'=hot (XE X E).O ρ (f (k+1) x).own)/\B.heap[w.heap.size+1]? =some (.loop (rec .ready none))/\B.heap[w.heap.size]? =some (.deferred (some [])))∨
     (e= .returned (.bool false)/\∃c,(∃z ρ,ou K z c/\bX X a w H E z B ρ/\D'=hot (XE X E).O ρ z.own)/\B.heap[w.heap.size+1]? =some (.loop (rec .done (some c)))/\B.heap[w.heap.size]? =some (.deferred (some [])))):=by
  intro k D W vs x ρx hx ho hD hl hd hkN hen;obtain⟨s1,hs1,hJ⟩:=hround k hkN x hx;have hlt:w.heap.size+1<W.heap.size:=(BY.1 hl).1;have hdat:=hdata _ (OE hkN);have hes:vs.toArray.size=ps.size:=by have:=hen.length;rw[hdat.1] at this;simpa using this.symm
  have hy:=run_yield (P:=X.P) (args:=vs.toArray) hl (by rw[hrec];exact hes);rw[hrec] at hy;refine⟨fn,_,assign,body,hy,roundIn_of_wpIn (F:=fw none) trivial (mn (r:=some (w.heap.size+1)) assign hms ⟨_,run_beginRound hl (by rw[hrec]),?_⟩)⟩;obtain⟨W2,hW2⟩:∃W2,W.putObj (w.heap.size+1) (.loop {rec .ready none with state:= .busy})=W2:=⟨_,rfl⟩;rw[hW2];have hl2:W2.heap[w.heap.size+1]? =some (.loop {rec .ready none with state:= .busy}):=by rw[<- hW2];exact World.putObj_heap_same hlt
  have hd2:W2.heap[w.heap.size]? =some (.deferred (some [])):=by rw[<- hW2];exact(World.putObj_heap_other (by omega)).trans hd
  have ho2:bX X a w H E (f k x) W2 ρx:=by
   rw[<- hW2];exact ho.abide hw0 (grownBy_putObj' _ _ _) (fun r e=>by cases e;exact⟨by omega,_,hl,rfl⟩)
  have hzip:(ps.zip vs.toArray).toList=ps.toList.zip vs:=Array.toList_zip;have hfold:(ps.zip vs.toArray).foldl (fun(t:Array Value) (p:Nat×Value)=>t.setIfInBounds p.1 p.2) a.tmps=(ps.toList.zip vs).foldl (fun(t:Array Value) (p:Nat×Value)=>t.setIfInBounds p.1 p.2) a.tmps:=by
   rw[<- Array.foldl_toList,hzip]
  obtain⟨act0,hact0⟩:∃act0:Act,act0={tmps:=(ps.toList.zip vs).foldl (fun(t:Array Value) (p:Nat×Value)=>t.setIfInBounds p.1 p.2) a.tmps,defers:=[]}:=⟨_,rfl⟩;have hfitA:Fits (XE X E) (f k x) {a with defers:=[]} W2 ρx:=⟨ho2.fits.env,ho2.fits.own,ho2.fits.io,ho2.fits.apart⟩;have hvals:aY (aJ (hot (XE X E).O ρx (f k x).own) W2 ρx) ((ps.toList.zip (items[k])).map Prod.snd) vs:=by
   (have e:(ps.toList.zip (items[k])).map Prod.snd=items[k]:=List.map_snd_zip (by have:=hdat.1;simp;omega);rw[e];refine hen.imp (fun y v hy h=>?_);have hz:=Ob.1 hdat.2 y hy;refine aN (H:=D) (w:=W) (w':=W2) (fun b _ hb=>by rw[hD];exact hb) (fun b hb hc=>?_) (fun id hid=>?_) h;·rw[<- hW2];refine World.putObj_heap_other (fun e=>?_);obtain⟨o,ho1,ho2⟩:=hc;rw[e,hl] at ho1;cases ho1;cases ho2);·cases y<;>simp_all [LV.isZ,LV.isOf]
  have hszA:a.tmps.size=X.T.N:=hst.size;have e1:(ps.toList.zip (items[k])).map Prod.fst=ps.toList:=List.map_fst_zip (by have:=hdat.1;simp;omega);obtain⟨actP,hactP,hfitP,hszP⟩:=jA (ps.toList.zip (items[k])) vs hfitA rfl hszA (fun p hp=>by
   have:=Ob.1 hps p.1 (QT hp).1;simpa using this) hvals
  rw[e1] at hactP;have hP0:actP=act0:=by rw[hactP,hact0]
  rw[hP0] at hfitP hszP;have hfit1:=i7 ms hfitP hszP hs1;rw[hfold,<- hact0];have hkA:=hkeptA vs act0 (by rw[hact0]);have hst1:St {XE X E with T:={X.T with keep:=ks},I:=fun b=>∃p∈(f k x).own,Blk (ρx p.1) b,w0:=W2,r:=some (w.heap.size+1),tm:=fun t=>(bp act0 ms).tmps.getD t undef} s1 (bp act0 ms) W2:=by
   refine⟨?_,fun _ _=>rfl,by rw[gC];exact hszP,Bel.refl _ _,fun b hb hm=>?_,⟨hst.small.n,?_,fun b hb=>?_,fun b v t hp=>?_⟩,ρx,hfit1.env,fun p hp=>?_,hfit1.io,hfit1.apart⟩;·rw[ff,hact0];exact Marks.nil _ _ _
   ·rcases hb with hb|hb
    ·rcases hm with hm|⟨p,hp,hpb⟩
     ·have h1:=hst.others b hb;have h2:b<X.w0.heap.size:=by
       by_cases h3:b<X.w0.heap.size
       ·exact h3
       ·exact absurd (.inl (by omega)) h1
      have:=ho2.bel.size;simp only at hm;omega
     ·exact hst.others b hb ((ho2.fits.own p hp).lt hpb).1
    ·obtain⟨o,ho,_⟩:=hEw b hb;have h2:=(BY.1 ho).1;rcases hm with hm|⟨p,hp,hpb⟩;·have:=ho2.keeps.size;simp only at hm;omega
     ·(rcases ho2.own p hp b hpb with h1|h1;·omega);·exact hEH b hb h1
   ·(have h1:=hst.small.on;refine⟨Og h1.1 ho2.bel.size,fun b hb=>?_⟩;rw[<- h1.2 b hb];refine ho2.bel.block b (OC hb h1.1) ?_;rintro(hm|hm);·have:=h1.1;simp only at hb;omega);·have:=hst.small.io b hm;simp only at hb;omega
   ·(obtain⟨p,hp,hpb⟩:=hb;rcases ((ho2.fits.own p hp).lt hpb).1 with h1|h1;·exact Og hst.small.on.1 h1);·exact hst.small.io b h1
   ·obtain⟨p1,p2,p3,p4⟩:=hst.small.pin b v t hp;have hnM:¬X.M b:=fun hm=>hm.elim (fun h1=>by omega) p2;refine⟨by have:=ho2.bel.size;simp only;omega,fun⟨q,hq,hqb⟩=>hnM ((ho2.fits.own q hq).lt hqb).1,fun h1=>h1.elim p3 (fun h2=>hnM (hEM b h2)),?_⟩;rw[<- p4];exact ho2.bel.block b p1 hnM
   ·have howns:s1.own=(f k x).own:=by
     have hq:∀(l:List (Nat×LV)) (s:aa),(cq s l).own=s.own:=by
      intro l;induction l with
      |nil=>intro s;rfl
      |cons q l ih=>intro s;exact ih _
     have hm:∀(l:List (Nat×Operand)) (s t:aa),cP X.T.N s l=some t->t.own=s.own:=by
      intro l;induction l with
      |nil=>intro s t h;cases h;rfl
      |cons q l ih=>
       intro s t h;simp only[cP] at h;split at h
       ·(split at h;·rw[ih _ _ h];rfl);·cases h
       ·cases h
     rw[hm _ _ _ hs1,hq]
    have:=(hfit1.own p hp).moved (H':=hot (XE X E).O ρx s1.own) (ρ':=ρx) (k:=p.1) (f:=id) (M':=Cx.M {XE X E with T:={X.T with keep:=ks},I:=fun b=>∃p∈(f k x).own,Blk (ρx p.1) b,w0:=W2,r:=some (w.heap.size+1),tm:=fun t=>(bp act0 ms).tmps.getD t undef}) (fun _ _ h=>h) (fun _ _ h=>h) rfl (fun b hb=> .inr ⟨p,by rw[<- howns];exact hp,hb⟩);rw[aB.map_id] at this;exact this
  have hw:=hJ {XE X E with T:={X.T with keep:=ks},I:=fun b=>∃p∈(f k x).own,Blk (ρx p.1) b,w0:=W2,r:=some (w.heap.size+1),tm:=fun t=>(bp act0 ms).tmps.getD t undef} rfl rfl _ _ hst1;refine pZ (n:=2) (Code.wpIn_mono (fun e a3 W3 hp=>?_) hw);obtain⟨s3,hK3,hst3⟩:=hp;have fin:∀(jump:Option Code) (z:aa),z.env.all (fun e=>ks.contains e.1)=true->le s3 z->∃ ρz,bX X a w H E z (W3.putObj (w.heap.size+1) (.loop (rec (if jump.isNone then .ready else .done) jump))) ρz/\
    (Instr.endRound (w.heap.size+1) jump).run X.P W3= .ok (.bool jump.isNone) (W3.putObj (w.heap.size+1) (.loop (rec (if jump.isNone then .ready else .done) jump)))/\
    (W3.putObj (w.heap.size+1) (.loop (rec (if jump.isNone then .ready else .done) jump))).heap[w.heap.size+1]? =some (.loop (rec (if jump.isNone then .ready else .done) jump))/\
    (W3.putObj (w.heap.size+1) (.loop (rec (if jump.isNone then .ready else .done) jump))).heap[w.heap.size]? =some (.deferred (some []))/\
    b5 D W (hot (XE X E).O ρz z.own) (W3.putObj (w.heap.size+1) (.loop (rec (if jump.isNone then .ready else .done) jump))):=by
   intro jump z hz hle;obtain⟨ρz,h1,h2,h3,h3'⟩:=ho2.backD hkA hz hle hst3;(have hsz2:W2.heap.size=W.heap.size:=by rw[<- hW2];simp[World.putObj]);have hl3:=h2.same _ _ hl2 rfl;have hd3:=h2.same _ _ hd2 rfl;have he:=run_endRound (P:=X.P) jump hl3;rw[hrec] at he ⊢;refine⟨ρz,h1.abide hw0 (grownBy_putObj' _ _ _) (fun r e=>by cases e;exact⟨by omega,_,hl3,rfl⟩),he,World.putObj_heap_same (BY.1 hl3).1,(World.putObj_heap_other (by omega)).trans hd3,⟨?_,?_,?_⟩⟩;·have:=h2.size;simp only[World.putObj,Array.size_setIfInBounds];omega
   ·(rintro b ((hb|hb)|⟨p,hp,hpb⟩);·exact .inl (by rw[hD];exact .inl (.inl hb)));·exact absurd hb (hEf b)
    ·(rcases h3 p hp b hpb with h4|⟨q,hq,hqb⟩;·exact .inr (by omega));·exact .inl (by rw[hD];exact .inr ⟨q,hq,hqb⟩)
   ·intro b hb hnD hc;have hne:b≠w.heap.size+1:=by
     intro e;obtain⟨o,ho1,ho2⟩:=hc;rw[e,hl] at ho1;cases ho1;cases ho2
    (have e1:W2.heap[b]? =W.heap[b]? :=by rw[<- hW2];exact World.putObj_heap_other hne);rw[World.putObj_heap_other hne,h3' b (by omega) (fun⟨q,hq,hqb⟩=>hnD (by rw[hD];exact .inr ⟨q,hq,hqb⟩)),e1]
  cases e with
  |normal=>
   obtain⟨y,hle,hy'⟩:=hK3;obtain⟨ρz,h1,h2,h3,h4,h5⟩:=fin none _ (hks (k+1) y) hle;exact⟨_,_,h2,_,h5,.inl ⟨rfl,⟨y,ρz,hy',h1,rfl⟩,h3,h4⟩⟩
  |ret=>
   obtain⟨z,hle,hz,hk3⟩:=hK3;obtain⟨ρz,h1,h2,h3,h4,h5⟩:=fin (some .ret) _ hz hle;exact⟨_,_,h2,_,h5,.inr ⟨rfl,.ret,⟨z,ρz,hk3,h1,rfl⟩,h3,h4⟩⟩
  |exit i=>
   obtain⟨z,hle,hz,hk3⟩:=hK3;obtain⟨ρz,h1,h2,h3,h4,h5⟩:=fin (some (.exit i)) _ hz hle;exact⟨_,_,h2,_,h5,.inr ⟨rfl,.exit i,⟨z,ρz,hk3,h1,rfl⟩,h3,h4⟩⟩
  |goto t=>exact hK3.elim
  |panic ch=>exact hK3.elim
  |outgrown=>exact hK3.elim
 obtain⟨t,ht⟩:∃t:bS,t={P:=X.P,B:=X.T.base,l:=w.heap.size+1,items:=items,J:=fun g D W=>match g with
  |some k=>(∃x ρ,Φ k x/\bX X a w H E (f k x) W ρ/\D=hot (XE X E).O ρ (f k x).own)/\W.heap[w.heap.size+1]? =some (.loop (rec .ready none))/\W.heap[w.heap.size]? =some (.deferred (some []))
  |none=>∃c,(∃z ρ,ou K z c/\bX X a w H E z W ρ/\D=hot (XE X E).O ρ z.own)/\W.heap[w.heap.size+1]? =some (.loop (rec .done (some c)))/\W.heap[w.heap.size]? =some (.deferred (some []))}:=⟨_,rfl⟩
 have hgb:∀{A B:World},lj A B->A.grownBy B none:=fun h=>⟨h.os,h.tape,h.output,h.size,fun k hk _=>h.at hk⟩;have hon:∀{z:aa} {W:World} {ρ:Nat->Value},bX X a w H E z W ρ->X.T.base.On W/\∀b,hot (XE X E).O ρ z.own b->b<W.heap.size:=by
  intro z W ρ ho;refine⟨⟨Og hst.small.on.1 ho.bel.size,fun b hb=>?_⟩,?_⟩
  ·(rw[<- hst.small.on.2 b hb];refine ho.bel.block b (OC hb hst.small.on.1) ?_;rintro(hm|hm);·have:=hst.small.on.1;omega);·have:=hst.small.io b hm;omega
  ·rintro b ((hb|hb)|⟨p,hp,hpb⟩)
   ·have h1:=hst.others b hb;have h2:b<X.w0.heap.size:=by
     by_cases h3:b<X.w0.heap.size
     ·exact h3
     ·exact absurd (.inl (by omega)) h1
    have:=ho.bel.size;omega
   ·exact absurd hb (hEf b)
   ·exact((ho.fits.own p hp).lt hpb).2
 have htok:t.OK:=by
  subst ht;refine⟨?_,?_,?_⟩
  ·(rintro(_|k) D A B hJ hgr;·obtain⟨c,⟨z,ρz,hx,ho,hD⟩,hl,hd⟩:=hJ;exact⟨c,⟨z,ρz,hx,ho.abide hw0 (hgb hgr) (by simp),hD⟩,(hgr.at (BY.1 hl).1).trans hl,(hgr.at (BY.1 hd).1).trans hd⟩);·obtain⟨⟨x,ρx,hx,ho,hD⟩,hl,hd⟩:=hJ;exact⟨⟨x,ρx,hx,ho.abide hw0 (hgb hgr) (by simp),hD⟩,(hgr.at (BY.1 hl).1).trans hl,(hgr.at (BY.1 hd).1).trans hd⟩
  ·(rintro(_|k) D A hJ;·obtain⟨c,⟨z,ρz,hx,ho,rfl⟩,hl,hd⟩:=hJ;exact hon ho);·obtain⟨⟨x,ρx,hx,ho,rfl⟩,hl,hd⟩:=hJ;exact hon ho
  ·intro k D W vs hJ hkN hen;obtain⟨⟨x,ρx,hx,ho,hD⟩,hl,hd⟩:=hJ;exact hmain k D W vs x ρx hx ho hD hl hd hkN hen
 have hcall:=hsq t (hot (XE X E).O (bT ρ s.own) (f 0 x₀).own) W1 htok (by rw[ht]) (by rw[ht]) (by rw[ht]) hb1 (fun b hb=>by
  rcases hb with(hb|hb)|hb;·exact .inl hb
  ·exact absurd hb (hEf b)
  ·exact .inr hb) (by rw[ht];exact⟨⟨x₀,_,hΦ,hout1,rfl⟩,hL1,hD1⟩)
 rw[show t.l=w.heap.size+1 by rw[ht]] at hcall;refine(qQ hcall).mono ?_;rintro e W2 ⟨v,g',D',rfl,hJ',hg'⟩;rw[ht] at hJ';rcases hg' with rfl|rfl
 ·obtain⟨⟨x,ρx,hx,ho,-⟩,hl,hd⟩:=hJ';have he:=run_endLoop (P:=X.P) hl (by rw[hrec];simp);rw[hrec] at he;refine⟨none,_,he,_,hdone x hx,(ho.abide hw0 (grownBy_putObj' _ _ _) (fun r e=>by cases e;exact⟨by omega,_,hl,rfl⟩)).st hr.2 hst ((World.putObj_heap_other (by omega)).trans hd)⟩
 ·obtain⟨c,⟨z,ρz,hj,ho,-⟩,hl,hd⟩:=hJ';have he:=run_endLoop (P:=X.P) hl (by rw[hrec];simp);rw[hrec] at he;refine⟨some c,_,he,?_⟩;cases c with
  |ret=>exact wpIn_ret ⟨z,hj,(ho.abide hw0 (grownBy_putObj' _ _ _) (fun r e=>by cases e;exact⟨by omega,_,hl,rfl⟩)).st hr.2 hst ((World.putObj_heap_other (by omega)).trans hd)⟩
  |exit i=>exact wpIn_exit ⟨z,hj,(ho.abide hw0 (grownBy_putObj' _ _ _) (fun r e=>by cases e;exact⟨by omega,_,hl,rfl⟩)).st hr.2 hst ((World.putObj_heap_other (by omega)).trans hd)⟩
  |_=>exact hj.elim
structure lS (B:av) (P:Program) (gf:FuncId) (m:Nat) (caps:List CV) (items:List (List LV)):Prop where
 enters:∀args w,(callFunc gf args).run P w= .ok (.enter gf args) w
 data:∀it∈items,it.length=m/\it.all LV.isZ=true
 seq:∀(t:bS),t.OK->t.P=P->t.B=B->t.items=items->∀(D:Nat->Prop) (W:World) (lb:List Value),t.J (some 0) D W->aY (eY D W (fun _=>undef)) caps lb->
  Calls P gf (#[.func (.yield t.l) #[] #[]]++lb.toArray) W fun e W'=>∃v g' D',e= .returned v/\t.J g' D' W'/\(g'=some items.length∨g'=none)
theorem oT{H H':Nat->Prop}{w w':World}{ρ ρ':Nat->Value}(hh:∀b,b<w.heap.size->H' b->H b)(hs:aW H w w'):∀{cs:List CV} {vs:List Value},cs.all CV.pure=true->aY (eY H w ρ) cs vs->aY (eY H' w' ρ') cs vs
 | [],[],_,_=>trivial
 | [],_::_,_,h=>h.elim
 |_::_,[],_,h=>h.elim
 |c::cs,v::vs,hp,h=>by
  simp only[Qg,N9] at hp;refine⟨?_,oT hh hs hp.2 h.2⟩;cases c with
  |z t x=>exact⟨h.1.1,Ty.rep_move hh hs h.1.2⟩
  |p id=>simp[CV.pure] at hp
theorem It{X:Cx}(hr:X.calm){s:aa}{K:Exit->aa->Prop}{g:Operand}{ps:Array Tmp}{assign body:Code}{gf:FuncId}{caps:List CV}
  (hg:aP s g=some (.l (.fn gf caps))) (hcap:caps.all CV.pure=true) {items:List (List LV)} (hseq:lS X.T.base X.P gf ps.size caps items) {ms:List (Nat×Operand)} (hms:fN assign=some ms) (ks:List Nat)
  (hk1:ks.all (fun t=> !ps.toList.contains t&& !(ms.map Prod.fst).contains t)=true) (hps:ps.toList.all (fun t=>decide (t<X.T.N))=true)
  {ι:Type} (f:Nat->ι->aa) (Φ:Nat->ι->Prop) (x₀:ι) (h₀:le s (f 0 x₀)) (hΦ:Φ 0 x₀) (hks:∀k x,(f k x).env.all (fun e=>ks.contains e.1)=true)
  (hround:∀k (hk:k<items.length) (x:ι),Φ k x->∃s1,cP X.T.N (cq (f k x) (ps.toList.zip items[k])) ms=some s1/\
   ∀X':Cx,X'.P=X.P->X'.T={X.T with keep:=ks}->J X' body s1 (kN f Φ ks K k))
  (hdone:∀x,Φ items.length x->K .normal (f items.length x)):J X (.rangeFunc g ps assign body) s K:=
 E6 hr hseq.enters hseq.data hms ks hk1 hps f Φ x₀ h₀ (fun a w ρ hst hf=>by
  obtain⟨lb,hlb1,hlb2⟩:aJ (hot X.O ρ s.own) w ρ (.fn gf caps) (a.eval g):=bJ hf hg;refine⟨lb,hlb1,fun t D W ht hP hB hi hb hD hJ=>?_⟩;have hlt:∀b,hot X.O ρ s.own b->b<w.heap.size:=fun b hb=>hf.hot_lt hst.others hst.below hb;exact hseq.seq t ht hP hB hi D W lb hJ (oT (fun b hlt hb=>gp h₀ (hD b hb)) (fun b _ hc=>hb.block b (cg hc)) hcap hlb2)) hΦ hks hround hdone
def CV.thawQ(id:Nat)(t:Ty)(x:t.D):CV->CV
 | .p i=>if i=id then .z (.ptr t) x else .p i
 | .z u y=> .z u y
def LV.thawQ(id:Nat)(t:Ty)(x:t.D):LV->LV
 | .ownP i off=>if i=id/\off=0 then .z (.ptr t) x else (LV.ownP i off).kill id
 | .fn f caps=> .fn f (caps.map (CV.thawQ id t x))
 |v=>v.kill id
def aa.thawQ(s:aa)(id:Nat)(t:Ty)(x:t.D):aa:={env:=bH (LV.thawQ id t x) s.env,own:=bg (LV.thawQ id t x) (del s.own id)}
theorem St.thawQ{X:Cx}{s:aa}{a:Act}{w:World}(hst:St X s a w){id:Nat}{t:Ty}{T:TypeId}{cs:List LV}{x:t.D}(hg:get? s.own id=some (.box T cs))(hx:t.join cs=some (x,[])):St X (s.thawQ id t x) a w:=by
 obtain⟨ρ,hf⟩:=hst.fits;refine⟨hst.marks,hst.kept,hst.size,hst.below,hst.others,hst.small,ρ,hf.drop hst.others hg fun H' hh hno y v hy=>?_⟩;have key:∀b,ρ id= .pointer (some ⟨b,0,none⟩)->(Ty.ptr t).rep H' w [.pointer (some ⟨b,0,none⟩)] x:=by
  intro b hb;obtain⟨b',vs,hb',hM,hh',hcs⟩:=hf.own _ (get?_mem hg);rw[hb] at hb';cases hb';obtain⟨v1,v2,rfl,h1,h2⟩:=Ty.join_ok t hx hcs;cases v2 with
  |cons _ _=>exact h2.elim
  |nil=>
   rw[Pr] at hh';refine⟨b,0,v1,rfl,t.rep_hot (fun b _ hb=>hh b hb) h1,fun _=>hno b (by rw[hb];rfl),fun j hj=>?_⟩;rw[Oz,cell_of_row w b j v1.toArray T (0,0) hh'];simp
 have hk:=zV id hh hy;cases y with
 |ownP i off=>
  simp only[LV.thawQ];split;·rename_i e;obtain⟨rfl,rfl⟩:=e;obtain⟨b,hb,rfl⟩:=hy;exact⟨rfl,key b hb⟩
  ·exact hk
 |fn f caps=>
  obtain⟨lb,rfl,hc⟩:=hy;refine⟨lb,rfl,?_⟩;clear hk;induction caps generalizing lb with
  |nil=>cases lb with
   |nil=>trivial
   |cons _ _=>exact hc.elim
  |cons c caps ih=>
   cases lb with
   |nil=>exact hc.elim
   |cons v lb=>
    refine⟨?_,ih lb hc.2⟩;cases c with
    |z u y=>exact⟨hc.1.1,u.rep_hot (fun b _ hb=>hh b hb) hc.1.2⟩
    |p i=>
     (simp only[CV.thawQ];split;·rename_i e;subst e;obtain⟨b,hb,rfl⟩:=hc.1;exact⟨rfl,key b hb⟩);·exact hc.1
 |_=>exact hk
theorem Cr{X:Cx}{c:Code}{s s':aa}{K:Exit->aa->Prop}(id:Nat)(t:Ty){T:TypeId}{cs:List LV}{x:t.D}(hg:get? s.own id=some (.box T cs))(hx:t.join cs=some (x,[]))(hs:s.thawQ id t x=s')(h:J X c s' K):J X c s K:=by
 subst hs;exact fun a w hst=>h a w (hst.thawQ hg hx)
theorem y4{X:Cx}{s s':aa}(id:Nat)(t:Ty){T:TypeId}{cs:List LV}{x:t.D}(hg:get? s.own id=some (.box T cs))(hx:t.join cs=some (x,[]))(hs:s.thawQ id t x=s'):∀a w,St X s a w->St X s' a w:=by
 subst hs;exact fun a w hst=>hst.thawQ hg hx
end Go.Cm
end
section
namespace Go.Cm
open Go.RowKit
def AV.openG:AV->AV
 | .g true x=> .l x
 |v=>v
def aa.openG(s:aa):aa:={env:=s.env.map fun e=>(e.1,e.2.openG),own:=s.own}
theorem bS.S.openG{t:bS}{T:Tab}{D:Nat->Prop}{s:aa}{a:Act}{w:World}(h:t.S T D s a w):t.S T D s.openG a w:=by
 obtain⟨ho,hb,ρ0,tm,hst⟩:=h;obtain⟨ρ,hf⟩:=hst.fits;refine⟨ho,hb,ρ0,tm,⟨hst.marks,hst.kept,hst.size,hst.below,hst.others,hst.small,ρ,fun e he=>?_,hf.own,hf.io,hf.apart⟩⟩;obtain⟨e0,h1,rfl⟩:=Ot.1 he;have h2:=hf.env e0 h1;obtain⟨k,v⟩:=e0;cases v with
 |g b x=>cases b with
  |true=>exact h2.1 rfl
  |false=>exact h2
 |_=>exact h2
section
variable {t:bS} {T:Tab} {g:Option Nat} {s s' s1:aa} {K:Exit->Option Nat->aa->Prop} {C:Prop}
theorem ex1{T:Tab}{ops l:List Oper}{s s':aa}{C:Prop}(h:exec T ops l s=some (C,s'):=by simp only[hT,hX,Go.Cm.mx0,Go.Cm.mx1,Go.Cm.mx2,Go.Cm.mx3,Go.Cm.mx4,Go.Cm.mx5,Go.Cm.mx6,Go.Cm.effOp,Go.Cm.endCall,Go.Cm.callOp,Go.Cm.appendOp,Go.Cm.sliceLV,Go.Cm.Ty.fieldTy,Go.Cm.Ty.fieldOf,N8,AS,IT,N3,No,AT,N4,N5,reduceIte,reduceDIte,reduceCtorEq];rfl):exec T ops l s=some (C,s'):=h
theorem Ct{ops l:List Oper}{K:Option Nat->aa->Prop}(h:YL t T ops l g s.openG K):YL t T ops l g s K:=fun Q D a w hJ hS hQ=>h Q D a w hJ hS.openG hQ
theorem NZ(n:Nat)(ht:t.OK)(hG:aV t.P T){ops l:List Oper}{K:Option Nat->aa->Prop}(he:exec T ops (l.take n) s=some (C,s1))(hC:C)(ho:s1.own=[])(h:YL t T ops (l.drop n) g s1 K):YL t T ops l g s K:=by
 have:=wU ht hG (l.take n) he hC ho h;rwa [O5] at this
theorem MF(ht:t.OK)(hG:aV t.P T){ops l:List Oper}{K:Option Nat->aa->Prop}(he:exec T ops l s=some (C,s1))(hC:C)(ho:s1.own=[])(hK:K g s1):YL t T ops l g s K:=by
 have:=wU (post:=[]) ht hG l he hC ho (AX hK);rwa [Pr] at this
theorem yln(n:Nat){ops l:List Oper}{K:Option Nat->aa->Prop}(hC:C)(h:YL t T ops (l.drop n) g s1 K)(ht:t.OK:=by assumption)(hG:aV t.P T:=by assumption)(he:exec T ops (l.take n) s=some (C,s1):=by exact ex1)(ho:s1.own=[]:=by rfl):YL t T ops l g s K:=NZ n ht hG he hC ho h
theorem yla{ops l:List Oper}{K:Option Nat->aa->Prop}(hC:C)(hK:K g s1)(ht:t.OK:=by assumption)(hG:aV t.P T:=by assumption)(he:exec T ops l s=some (C,s1):=by exact ex1)(ho:s1.own=[]:=by rfl):YL t T ops l g s K:=MF ht hG he hC ho hK
theorem yg(hC:C){id:Nat}{ops:Array Oper}{c2:Code}(hK:YJ t T c2 g s' K)(ht:t.OK:=by assumption)(hG:aV t.P T:=by assumption)(he:exec T ops.toList ops.toList s=some (C,s'):=by exact ex0)(ho:s'.own=[]:=by rfl):YJ t T (.seq (.region id ops false) c2) g s K:=
 lk (Co ht hG he hC ho hK)
theorem yr(hC:C){id:Nat}{ops:Array Oper}(hK:K .normal g s')(ht:t.OK:=by assumption)(hG:aV t.P T:=by assumption)(he:exec T ops.toList ops.toList s=some (C,s'):=by exact ex0)(ho:s'.own=[]:=by rfl):YJ t T (.region id ops false) g s K:=
 Co ht hG he hC ho hK
theorem yd(hC:C){recs:List Rec}{id:Nat}{ops:Array Oper}{c2:Code}(hK:YJ t T c2 g s' K)(ht:t.OK:=by assumption)(hG:aV t.P T:=by assumption)(he:trace T ops.toList ops.toList s=some (C,s',recs):=by exact tr0)(hor:cV ops.toList recs=true:=by kernel_rfl)
  (hf:(recs.flatMap Rec.news).all (fun x=> !s.refs.contains x)=true:=by rfl) (hd:(distinct (s'.env.map Prod.fst)&&distinct (s'.own.map Prod.fst))=true:=by rfl) (ho:s'.own=[]:=by rfl):YJ t T (.seq (.region id ops true) c2) g s K:=
 lk (ME ht hG he hor hf hd hC ho hK)
theorem ycd{c:Operand}{x y:Code}{b:Bool}(h1:b=true->YJ t T x g s K)(h2:b=false->YJ t T y g s K)(hc:leaf (aP s c)=some (.z .bool b):=by simp only[Go.Cm.mx0,Go.Cm.mx1,Go.Cm.mx2,Go.Cm.mx3,Go.Cm.mx4,Go.Cm.mx5,Go.Cm.mx6,Go.Cm.effOp,Go.Cm.endCall,Go.Cm.callOp,Go.Cm.appendOp,Go.Cm.sliceLV,Go.Cm.Ty.fieldTy,Go.Cm.Ty.fieldOf,N8,AS,IT,N3,No,AT,N4,N5,reduceIte,reduceDIte,reduceCtorEq];rfl):YJ t T (.cond c x y) g s K:=MC hc h1 h2
theorem mI{y:Code}(h:YJ t T y g s K):Cl t T y K .normal g s:=h
theorem y5{y:Code}{i:Nat}(h:K (.exit i) g s):Cl t T y K (.exit i) g s:=h
theorem ki{y:Code}(h:K .ret g s):Cl t T y K .ret g s:=h
theorem y6{id:Nat}(h:K .normal g s):lR id K .normal g s:=h
theorem tQ{id:Nat}(h:K .normal g s):lR id K (.exit id) g s:=by simp only[lR,if_true];exact h
theorem nQ{id:Nat}(h:K .ret g s):lR id K .ret g s:=h
section
variable {ι:Type} {f:ι->aa} {gg:ι->Option Nat} {Φ:ι->Prop} {μ:ι->Nat} {x:ι}
theorem y7(y:ι)(h:le s (f y))(hg:g=gg y)(h2:Φ y)(h3:μ y<μ x):qw f gg Φ μ x K .normal g s:=⟨y,h,hg,h2,h3⟩
theorem tS{i:Nat}(h:K (.exit i) g s):qw f gg Φ μ x K (.exit i) g s:=h
theorem wV(h:K .ret g s):qw f gg Φ μ x K .ret g s:=h
end
theorem ye{id:Nat}{ops:Array Oper}{c2:Code}(h:YL t T ops.toList ops.toList g s (fun g s=>YJ t T c2 g s K)):YJ t T (.seq (.region id ops false) c2) g s K:=lk (yX h)
end
end Go.Cm
end