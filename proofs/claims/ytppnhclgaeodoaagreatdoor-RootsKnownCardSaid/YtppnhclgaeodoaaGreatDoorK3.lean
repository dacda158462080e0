/- Merged by a program out of several texts. -/
import Derived.Test.YtppnhclgaeodoaaGreatDoorK2
import Derived.KernelRfl
import Derived.IntWalk
import Derived.Lib.ItoaNum
import Derived.Shelf.Strings.BuilderK
import Derived.Shelf.Strconv.Itoa3
import Derived.Shelf.Pu.ParseUintPublic10
import Derived.Test.YtppnhclgaeodoaaGreatDoorProg
import Derived.WalkKit
import Derived.BigCall
import Derived.Lib.Hide
import Derived.Test.YtppnhclgaeodoaaGreatDoorCards
import Derived.Test.YtppnhclgaeodoaaGreatDoorTie
import Derived.OpenShut
import Derived.Lib.LaidTab
import Derived.Stop.LaidErr
import Derived.Lib.SmallJoins
import Derived.Deep.DeepLaidRun
import Derived.Shelf.Vars
import Derived.Lib.IndexMore
import Derived.Laws.CopyOwn
import Derived.Deep.RegionLaw
import Derived.Shelf.Strings.Builder2
import Derived.Shelf.Small.Wraps
import Derived.Shelf.Strings.Builder2Cap
import Derived.Shelf.Strconv.Atoi
import Derived.Shelf.Strconv.AtoiErrFast
import Derived.Shelf.Strconv.ParseIntEmpty
import Derived.Shelf.Strconv.AtoiFail
import Derived.Shelf.Strconv.Clone
import Derived.Shelf.Strconv.SyntaxError
import Derived.Shelf.Strconv.Lower
import Derived.Shelf.Strconv.ParseUint10
import Derived.Shelf.Strconv.ParseUint10Empty
import Derived.Shelf.Strconv.RangeError
import Derived.Shelf.Strconv.ParseUintEmpty
import Derived.Shelf.Strconv.ParseUint10b64
import Derived.Shelf.Strconv.ParseUint10b32
import Derived.Shelf.Strconv.ParseUint10b16
import Derived.Shelf.Strconv.ParseUint10b8
import Derived.Shelf.Strings.Search1
import Derived.Shelf.Strings.Search2
import Derived.Shelf.Strings.Cut
import Derived.Shelf.Strings.Shaped
import Derived.Shelf.Bits.Mul64
set_option linter.all false
set_option linter.unusedSimpArgs false
set_option linter.unusedVariables false
set_option maxRecDepth 100000
open Array renaming getElem?_eq_none→Ry,size_empty→Tg
open Bool renaming and_eq_true→N9,or_eq_true→OT,true_and→Pb,not_eq_true'→Pc,false_eq_true→Pd,not_true→Pv,or_eq_false_iff→PN,false_or→QK,false_and→Rk,not_false→Rl,or_false→RC,true_eq_false→Sc,and_false→Sj,and_true→SD,or_true→SO,true_or→TZ,eq_false_iff→T1
open Go.IntKind renaming i64→IN,u64→N2,u32→OG,u8→TX
open Go.Lib renaming decDigits→Oi,itoa→ON,byteCells_length→QQ,byteCells_append→QR,pow10Tab→SP,hid→SQ,tabIs_of_head→S9,IsBuilder→Ta,parseUintB→TI,TabIs→TN,fresh_isBuilder→TP,strCells_length→TQ,cut→T5,tabData→Uc
open Int renaming toNat_natCast→Od,mul_le_mul_of_nonneg_left→Oe,mul_le_mul_of_nonneg_right→Ok,mul_assoc→Ow,pow_succ→OB,mul_add→OH,toNat_of_nonneg→OL,mul_comm→OP,le_of_lt→O8,emod_lt_of_pos→Pe,ediv_lt_of_lt_mul→Pg,emod_nonneg→Pk,mul_ne_zero→Pm,emod_add_mul_ediv→Pt,toNat→Px,mul_nonneg→Pz,ediv_nonneg→PF,emod_eq_of_lt→PW,add_mul_emod_self_left→P3,mul_one→Qe,add_mul→Qn,mul_lt_mul_of_pos_right→Qp,tdiv_eq_ediv_of_nonneg→Qw,natAbs_natCast→QI,pow_pos→QP,ediv_eq_zero_of_lt→QU,le_ediv_iff_mul_le→QV,mul_sub→QY,tmod_eq_emod_of_nonneg→Q4,natCast_mul→Q7,one_mul→Rb,eq_ofNat_of_zero_le→Rn,mul_neg→Rr,ne_of_gt→Rx,pow_nonneg→RJ,pow_add→RK,natAbs_mul→RL,add_zero→RX,add_comm→RY,eq_of_mul_eq_mul_left→R3,natCast_pow→Sb,mul_zero→Sk,zero_add→Sl,ediv_le_self→SC,sub_mul→SH,pow_zero→SS,mul_left_comm→S7,add_mul_ediv_right→To,ediv_mul_le→Tt,le_refl→TF,neg_mul→TH,ediv_emod_unique→TJ,lt_of_lt_of_le→TY,gcd_dvd_right→T4,neg_neg→Ub
open List renaming getD_eq_getElem?_getD→sh,getElem?_eq_getElem→AI,length_pos_iff→By,length→If,mem_cons→IS,replicate→N6,eq_nil_of_length_eq_zero→N7,all_eq_true→Ob,length_take→Of,take_of_length_le→Oj,length_append→Ol,length_drop→Om,length_cons→Oo,mem_append→Oq,mem_map→Ot,getLastD_eq_getLast?→Ou,drop_zero→Oy,getElem?_eq_none→OA,take_length→OD,getElem_mem→OE,getLast?_eq_some_getLast→OI,take→OM,length_nil→OO,size_toArray→OQ,cons_append→OS,drop→OX,nil_append→OY,drop_eq_getElem_cons→O0,getElem?_cons_succ→O3,append_assoc→O4,take_append_drop→O5,map_cons→O6,range→Pa,dropLast_concat_getLast→Pf,mem_singleton→Ph,mem_of_mem_take→Pi,take_succ_cons→Pn,getElem?_map→Pp,append_nil→Pr,map_congr_left→Pw,drop_of_length_le→PB,drop_drop→PH,getElem?_cons_zero→PI,mem_of_mem_drop→PL,length_dropLast→PO,foldl_cons→PQ,length_set→PR,length_replicate→PU,mem_replicate→P0,getLast?_eq_getElem?→Qc,replicate_succ→Qd,all_cons→Qg,set_cons_succ→Ql,dropLast_subset→Qm,getElem?_replicate→Qo,drop_eq_nil_of_le→Qs,take_zero→Qt,map_nil→Qv,take_succ_eq_append_getElem→Qx,drop_succ_cons→Qz,map_append→QB,map_map→QW,contains_cons→Q1,getElem?_set→Ra,toList_toArray→Re,getD_cons_succ→Rg,drop_append→Rj,map_id→Rs,any_cons→RB,flatMap_cons→RE,drop_left→RH,mem_or_eq_of_mem_set→R4,eq_of_mem_replicate→R9,singleton_append→Sp,dropLast_eq_take→Sq,getLast_mem→SB,drop_append_of_le_length→SF,take_append_of_le_length→SG,contains_nil→S4,getElem?_nil→S5,take_add_one→S6,flatMap_nil→Td,isEmpty_nil→Te,all_nil→Tl,any_nil→Tm,takeWhile_prefix→Tz,getLast?_append→TE,getElem?_set_ne→TG,drop_nil→TR,take_nil→TS,getLastD_cons→TW
open List.Pairwise renaming nil→S3
open List.cons renaming injEq→P5
open Nat renaming reduceEqDiff→AS,reduceLeDiff→AT,reduceAdd→IT,reduceSub→No,reduceMul→N3,reduceBEq→N4,reduceBNe→N5,reduceLT→N8,le_refl→Oa,le_trans→Og,zero_add→Oz,lt_of_lt_of_le→OC,succ_mul→O7,min_eq_left→Pq,pow_le_pow_right→PA,zero_le→PM,lt_of_le_of_lt→PP,add_zero→Qr,le_of_lt→QN,add_assoc→QX,lt_irrefl→Rc,lt_or_ge→Ru,pow_succ→Rw,gcd→RG,sub_self→RT,le_max_right→RW,le_max_left→Sa,mod_eq_of_lt→Sv,sub_zero→SR,lt_add_one→TD,mul_right_comm→TV,gcd_comm→T3,min→T6
open Option renaming getD_some→OV,map_some→Pj,isSome_none→Q2,isSome_some→SV,isNone_none→SW,isNone_some→SX,toList_some→SY,getD_none→Tf,map_none→Tq
open Option.some renaming injEq→PV
open Rat renaming divInt→Ox,num_divInt_den→Ps,divInt_mul_divInt→Q5,div_def→Sd,sub_eq_add_neg→SZ
section
namespace Go.Cm
theorem ai{a b:Prop}(x:a)(y:b):a/\b:=⟨x,y⟩
def mx0:=ai @tW.eq_1<|ai @tW.eq_2<|ai @tW.eq_3<|ai @aa.moveArr.eq_1<|ai @LV.moveS.eq_1<|ai @LV.moveS.eq_2<|ai @tE.eq_1<|ai @tE.eq_2<|ai @tE.eq_3<|ai @cy.eq_1<|ai @cy.eq_2<|ai @cy.eq_3<|ai @cy.eq_4<|ai @I5<|ai @mo.eq_1<|ai @asZ.eq_1<|ai @asZ.eq_2<|ai @F7.eq_1<|ai @F7.eq_2<|ai @Lb.eq_1<|ai @kq.eq_1<|ai @kq.eq_2<|ai @aa.forget.eq_1<|ai @aa.forget.eq_2<|ai @LV.forget.eq_1<|ai @Tab.mayMove.eq_1<|ai @LV.thawP.eq_1<|ai @LV.thawP.eq_2<|ai @LV.thawM.eq_1<|ai @LV.thawM.eq_2<|ai @LV.keepM.eq_1<|ai @LV.keepM.eq_2<|ai @LV.keepM.eq_3<|ai @aa.thawP.eq_1<|ai @aa.thawM.eq_1<|ai @Tab.conAt.eq_1<|ai @pY.eq_1<|ai @RV.cold.eq_1<|ai @RV.cold.eq_2<|ai @RV.cold.eq_3<|ai @RV.cold.eq_4<|ai @zt.eq_1<|ai @rvs?.eq_1<|ai @rvs?.eq_2<|ai @rvs?.eq_3<|ai @rvs?.eq_4<|ai @rvs?.eq_5<|ai @CV.data.eq_1<|ai @CV.data.eq_2<|ai @kz.eq_1<|ai @kz.eq_2<|ai @kz.eq_3<|ai @kz.eq_4<|ai @kz.eq_5<|ai @kz.eq_6<|ai @iV.eq_1<|ai @iV.eq_2<|ai @iV.eq_3<|ai @mQ.eq_1<|ai @cP.eq_1<|ai @cP.eq_2<|ai @cq.eq_1<|ai @cq.eq_2<|ai @List.zip_cons_cons.{0,0}<|ai @List.zip_nil_right.{0,0}<|ai @List.zip_nil_left.{0,0}<|ai @Go.Op.operands.eq_1<|ai @Go.Op.operands.eq_2<|ai @Go.Op.operands.eq_3<|ai @Go.Op.operands.eq_4<|ai @Go.Op.operands.eq_5<|ai @Go.Op.operands.eq_6<|ai @Go.Op.operands.eq_7<|ai @Go.Op.operands.eq_8<|ai @Go.Op.operands.eq_9<|ai @Go.Op.operands.eq_10<|ai @Go.Op.operands.eq_11<|ai @Go.Op.operands.eq_12<|ai @Go.Op.operands.eq_13<|ai @Go.Op.operands.eq_14<|ai @Go.Op.operands.eq_15<|ai @Go.Op.operands.eq_16<|ai @Go.Op.operands.eq_17<|ai @Go.Op.operands.eq_18<|ai @Go.Op.operands.eq_19<|ai @Go.Op.operands.eq_20<|ai @Go.Op.operands.eq_21<|ai @Go.Op.operands.eq_22<|ai @Go.Op.operands.eq_23<|ai @Go.Op.operands.eq_24<|ai @Go.Op.operands.eq_25<|ai @Go.Op.operands.eq_26<|ai @Go.Op.operands.eq_27<|ai @Go.Op.operands.eq_28<|ai @Go.Op.operands.eq_29<|ai @Go.Op.operands.eq_30<|ai @Go.Op.operands.eq_31<|ai @Go.Op.operands.eq_32<|ai @Go.Op.operands.eq_33<| @Go.Op.operands.eq_34
def mx1:=ai @Go.Op.operands.eq_35<|ai @Go.Op.operands.eq_36<|ai @Go.Op.operands.eq_37<|ai @Go.Op.operands.eq_38<|ai @Go.Op.operands.eq_39<|ai @Go.Op.operands.eq_40<|ai @Go.Op.operands.eq_41<|ai @Go.Op.operands.eq_42<|ai @Go.Op.operands.eq_43<|ai @Go.Call.operands.eq_1<|ai @Array.toList_append.{0}<|ai @List.append_toArray.{0}<|ai @Array.append_empty.{0}<|ai @Array.empty_append.{0}<|ai @Option.toArray_some.{0}<|ai @Option.toArray_none.{0}<|ai @mP.eq_1<|ai @FE.eq_1<|ai @FF.eq_1<|ai @mkC.eq_1<|ai @exec.eq_1<|ai @exec.eq_2<|ai @c9.eq_1<|ai @aT.eq_1<|ai @aT.eq_2<|ai @aT.eq_3<|ai @aT.eq_4<|ai @aT.eq_5<|ai @aT.eq_6<|ai @aT.eq_7<|ai @aT.eq_8<|ai @aT.eq_9<|ai @aT.eq_10<|ai @aT.eq_11<|ai @aT.eq_12<|ai @aT.eq_13<|ai @aT.eq_14<|ai @aT.eq_15<|ai @aT.eq_16<|ai @dS.eq_1<|ai @dS.eq_2<|ai @dS.eq_3<|ai @dS.eq_4<|ai @dS.eq_5<|ai @dS.eq_6<|ai @dS.eq_7<|ai @effOp.eq_1<|ai @effOp.eq_2<|ai @effOp.eq_3<|ai @effOp.eq_4<|ai @effOp.eq_5<|ai @effOp.eq_6<|ai @effOp.eq_7<|ai @effOp.eq_8<|ai @effOp.eq_9<|ai @effOp.eq_10<|ai @effOp.eq_11<|ai @effOp.eq_12<|ai @effOp.eq_13<|ai @effOp.eq_14<|ai @effOp.eq_15<|ai @effOp.eq_16<|ai @effOp.eq_17<|ai @effOp.eq_18<|ai @effOp.eq_19<|ai @effOp.eq_20<|ai @effOp.eq_21<|ai @effOp.eq_22<|ai @appendOp.eq_1<|ai @appendOp.eq_2<|ai @aP.eq_1<|ai @aP.eq_2<|ai @aP.eq_3<|ai @aP.eq_4<|ai @ez.eq_1<|ai @ez.eq_2<|ai @ez.eq_3<|ai @ez.eq_4<|ai @leaf.eq_1<|ai @leaf.eq_2<|ai @fI.eq_1<|ai @fI.eq_2<|ai @get?.eq_1<|ai @get?.eq_2<|ai @upd.eq_1<|ai @upd.eq_2<|ai @del.eq_1<|ai @del.eq_2<|ai @Tab.ok.eq_1<|ai @aa.put.eq_1<|ai @aa.kill.eq_1<|ai @aa.hush.eq_1<|ai @aa.freeze.eq_1<|ai @aa.freezeAll.eq_1<|ai @aa.freezeAll.eq_2<|ai @frozenAt.eq_1<|ai @dL.eq_1<|ai @dw.eq_1<|ai @dw.eq_2<| @dw.eq_3
def mx2:=ai @dw.eq_4<|ai @bL.eq_1<|ai @bL.eq_2<|ai @bL.eq_3<|ai @bL.eq_4<|ai @dD.eq_1<|ai @dD.eq_2<|ai @bH.eq_1<|ai @bH.eq_2<|ai @bg.eq_1<|ai @bg.eq_2<|ai @LV.kill.eq_1<|ai @LV.isOf.eq_1<|ai @LV.isOf.eq_2<|ai @LV.isOf.eq_3<|ai @LV.isOf.eq_4<|ai @LV.isOf.eq_5<|ai @LV.isOf.eq_6<|ai @LV.isOf.eq_7<|ai @LV.isOf.eq_8<|ai @LV.isOf.eq_9<|ai @LV.isOf.eq_10<|ai @LV.thaw.eq_1<|ai @LV.thaw.eq_2<|ai @AV.map.eq_1<|ai @AV.map.eq_2<|ai @AV.map.eq_3<|ai @AV.map.eq_4<|ai @AV.map.eq_5<|ai @aB.map.eq_1<|ai @aB.map.eq_2<|ai @aB.map.eq_3<|ai @aB.map.eq_4<|ai @aB.map.eq_5<|ai @b8.eq_1<|ai @b8.eq_2<|ai @b8.eq_3<|ai @b8.eq_4<|ai @b8.eq_5<|ai @b8.eq_6<|ai @b8.eq_7<|ai @b8.eq_8<|ai @b8.eq_9<|ai @b8.eq_10<|ai @b8.eq_11<|ai @b8.eq_12<|ai @b8.eq_13<|ai @b8.eq_14<|ai @b8.eq_15<|ai @ky.eq_1<|ai @ky.eq_2<|ai @ky.eq_3<|ai @ky.eq_4<|ai @ky.eq_5<|ai @ky.eq_6<|ai @ky.eq_7<|ai @ky.eq_8<|ai @dE.eq_1<|ai @dE.eq_2<|ai @dE.eq_3<|ai @dE.eq_4<|ai @dE.eq_5<|ai @dE.eq_6<|ai @dE.eq_7<|ai @dE.eq_8<|ai @dE.eq_9<|ai @dE.eq_10<|ai @dE.eq_11<|ai @dE.eq_12<|ai @dE.eq_13<|ai @dE.eq_14<|ai @dE.eq_15<|ai @dE.eq_16<|ai @dE.eq_17<|ai @mO.eq_1<|ai @mO.eq_2<|ai @mO.eq_3<|ai @me.eq_1<|ai @me.eq_2<|ai @me.eq_3<|ai @me.eq_4<|ai @DK.eq_1<|ai @DK.eq_2<|ai @DK.eq_3<|ai @sliceLV.eq_1<|ai @sliceLV.eq_2<|ai @sliceLV.eq_3<|ai @sliceLV.eq_4<|ai @sliceLV.eq_5<|ai @sliceLV.eq_6<|ai @sliceLV.eq_7<|ai @iA.eq_1<|ai @iA.eq_2<|ai @iA.eq_3<|ai @LV.get_self<|ai @AV.get_self<|ai @LV.get.eq_1<|ai @LV.get.eq_2<|ai @LV.get.eq_3<| @LV.get.eq_4
def mx3:=ai @LV.get.eq_5<|ai @AV.get.eq_1<|ai @AV.get.eq_2<|ai @AV.get.eq_3<|ai @AV.ids.eq_1<|ai @AV.ids.eq_2<|ai @AV.ids.eq_3<|ai @LV.ids.eq_1<|ai @LV.ids.eq_2<|ai @Ty.w.eq_1<|ai @Ty.w.eq_2<|ai @Ty.w.eq_3<|ai @Ty.w.eq_4<|ai @Ty.w.eq_5<|ai @Ty.zero.eq_1<|ai @Ty.zero.eq_2<|ai @Ty.zero.eq_3<|ai @Ty.zero.eq_4<|ai @Ty.zero.eq_5<|ai @Ty.zero.eq_6<|ai @Ty.zero.eq_7<|ai @Ty.zero.eq_8<|ai @Ty.zero.eq_9<|ai @Ty.zero.eq_10<|ai @Ty.zero.eq_11<|ai @Ty.isAgg.eq_1<|ai @Ty.isAgg.eq_2<|ai @Ty.isAgg.eq_3<|ai @gO.eq_1<|ai @gO.eq_2<|ai @isNilP.eq_1<|ai @isNilP.eq_2<|ai @LV.cells.eq_1<|ai @LV.cells.eq_2<|ai @LV.cells.eq_3<|ai @LV.cells.eq_4<|ai @AV.cells.eq_1<|ai @AV.cells.eq_2<|ai @AV.cells.eq_3<|ai @Ty.cells.eq_1<|ai @Ty.cells.eq_2<|ai @Ty.cells.eq_3<|ai @Ty.cells.eq_4<|ai @Ty.cells.eq_5<|ai @Ty.cells.eq_6<|ai @Ty.cells.eq_7<|ai @Ty.cells.eq_8<|ai @Ty.cells.eq_9<|ai @Ty.cells.eq_10<|ai @Ty.cells.eq_11<|ai @LV.names.eq_1<|ai @LV.names.eq_2<|ai @Ty.join.eq_1<|ai @Ty.join.eq_2<|ai @Ty.join.eq_3<|ai @Ty.join.eq_4<|ai @Ty.join.eq_5<|ai @Ty.join.eq_6<|ai @Ty.join.eq_7<|ai @Ty.join.eq_8<|ai @Ty.join.eq_9<|ai @Ty.join.eq_10<|ai @Ty.join.eq_11<|ai @Ty.join.eq_12<|ai @iU.eq_1<|ai @iU.eq_2<|ai @Ty.fields.eq_1<|ai @Ty.fields.eq_2<|ai @Ty.fields.eq_3<|ai @Ty.fieldTy.eq_1<|ai @Ty.fieldTy.eq_2<|ai @Ty.fieldTy.eq_3<|ai @Ty.fieldTy.eq_4<|ai @Ty.fieldOf.eq_1<|ai @Ty.fieldOf.eq_2<|ai @Ty.fieldOf.eq_3<|ai @Ty.fieldOf.eq_4<|ai @Ty.fieldOf.eq_5<|ai @Ty.fieldOf.eq_6<|ai @Ty.fieldOf.eq_7<|ai @Ty.fieldOf.eq_8<|ai @Ty.fieldOf.eq_9<|ai @Ty.fieldOf.eq_10<|ai @Ty.fieldOf.eq_11<|ai @Ty.fieldOf.eq_12<|ai @Ty.fieldOf.eq_13<|ai @Ty.fieldOf.eq_14<|ai @Ty.fieldOf.eq_15<|ai @Ty.fieldOf.eq_16<|ai @Ty.fieldOf.eq_17<|ai @Ty.fieldOf.eq_18<|ai @Ty.fieldOf.eq_19<|ai @Ty.fieldOf.eq_20<|ai @Ty.fieldOf.eq_21<|ai @Ty.fieldOf.eq_22<|ai @Ty.fieldOff.eq_1<|ai @Ty.fieldOff.eq_2<|ai @Ty.zeroCells.eq_1<|ai @Ty.zeroCells.eq_2<| @Ty.zeroCells.eq_3
def mx4:=ai @Ty.zeroCells.eq_4<|ai @Ty.zeroCells.eq_5<|ai @Ty.zeroCells.eq_6<|ai @Ty.zeroCells.eq_7<|ai @Ty.zeroCells.eq_8<|ai @Ty.zeroCells.eq_9<|ai @Ty.zeroCells.eq_10<|ai @Ty.zeroCells.eq_11<|ai @eD.eq_1<|ai @callOp.eq_1<|ai @dU.eq_1<|ai @dU.eq_2<|ai @dU.eq_3<|ai @bO.eq_1<|ai @bO.eq_2<|ai @bO.eq_3<|ai @iW.eq_1<|ai @qF.eq_1<|ai @once.eq_1<|ai @once.eq_2<|ai @iB.eq_1<|ai @iB.eq_2<|ai @iB.eq_3<|ai @LV.lends.eq_1<|ai @LV.lends.eq_2<|ai @LV.lends.eq_3<|ai @LV.lends.eq_4<|ai @LV.lends.eq_5<|ai @LV.lends.eq_6<|ai @LV.lends.eq_7<|ai @CV.lends.eq_1<|ai @CV.lends.eq_2<|ai @aB.lends.eq_1<|ai @aB.lends.eq_2<|ai @distinct.eq_1<|ai @distinct.eq_2<|ai @iX.eq_1<|ai @iX.eq_2<|ai @c8.eq_1<|ai @c8.eq_2<|ai @fh.eq_1<|ai @fh.eq_2<|ai @LV.ren.eq_1<|ai @LV.ren.eq_2<|ai @LV.ren.eq_3<|ai @LV.ren.eq_4<|ai @LV.ren.eq_5<|ai @LV.ren.eq_6<|ai @LV.ren.eq_7<|ai @LV.ren.eq_8<|ai @LV.ren.eq_9<|ai @CV.ren.eq_1<|ai @CV.ren.eq_2<|ai @gX.eq_1<|ai @gX.eq_2<|ai @fJ.eq_1<|ai @fJ.eq_2<|ai @fJ.eq_3<|ai @iY.eq_1<|ai @iY.eq_2<|ai @iY.eq_3<|ai @kA.eq_1<|ai @LV.back.eq_1<|ai @LV.back.eq_2<|ai @LV.back.eq_3<|ai @LV.back.eq_4<|ai @LV.back.eq_5<|ai @LV.back.eq_6<|ai @LV.back.eq_7<|ai @LV.back.eq_8<|ai @CV.back.eq_1<|ai @CV.back.eq_2<|ai @iC.eq_1<|ai @iC.eq_2<|ai @ioB.eq_1<|ai @endCall.eq_1<|ai @cD.eq_1<|ai @cD.eq_2<|ai @cD.eq_3<|ai @eA.eq_1<|ai @eA.eq_2<|ai @bF.eq_1<|ai @bF.eq_2<|ai @RV.give.eq_1<|ai @RV.give.eq_2<|ai @RV.give.eq_3<|ai @RV.give.eq_4<|ai @guardOf.eq_1<|ai @tmpsOf.eq_1<|ai @tmpsOf.eq_2<|ai @tmpsOf.eq_3<|ai @cw.eq_1<|ai @cw.eq_2<|ai @asks.eq_1<|ai @asks.eq_2<|ai @AV.plain.eq_1<|ai @AV.plain.eq_2<|ai @AV.plain.eq_3<|ai @eR.eq_1<| @eR.eq_2
def mx5:=ai @eR.eq_3<|ai @ji.eq_1<|ai @cS.eq_1<|ai @cj.eq_1<|ai @cj.eq_2<|ai @cj.eq_3<|ai @dV.eq_1<|ai @LV.plain.eq_1<|ai @LV.plain.eq_2<|ai @LV.plain.eq_3<|ai @LV.plain.eq_4<|ai @jh.eq_1<|ai @jh.eq_2<|ai @CV.lv.eq_1<|ai @CV.lv.eq_2<|ai @CV.isOf.eq_1<|ai @CV.isOf.eq_2<|ai @Go.Value.oneCell'.eq_1<|ai @Go.Value.oneCell'.eq_2<|ai @Go.Value.oneCell'.eq_3<|ai @LV.io.eq_1<|ai @LV.io.eq_2<|ai @LV.io.eq_3<|ai @LV.io.eq_4<|ai @LV.io.eq_5<|ai @LV.io.eq_6<|ai @LV.io.eq_7<|ai @LV.io.eq_8<|ai @LV.io.eq_9<|ai @Re.{0}<|ai @S4.{0}<|ai @Q1.{0}<|ai @Qv.{0,0}<|ai @O6.{0,0}<|ai @Pr.{0}<|ai @OY.{0}<|ai @OS.{0}<|ai @Td.{0,0}<|ai @RE.{0,0}<|ai @Te.{0}<|ai @Oo.{0}<|ai @OO.{0}<|ai @PI.{0}<|ai @O3.{0}<|ai @S5.{0}<|ai @Tl.{0}<|ai @Qg.{0}<|ai @Tm.{0}<|ai @RB.{0}<|ai @Oy.{0}<|ai @Qt.{0}<|ai @Qz.{0}<|ai @Pn.{0}<|ai @TR.{0}<|ai @TS.{0}<|ai @Pj.{0,0}<|ai @Tq.{0,0}<|ai @SV.{0}<|ai @Q2.{0}<|ai @OV.{0}<|ai @Tf.{0}<|ai @SW.{0}<|ai @SX.{0}<|ai @Rl<|ai @Pv<|ai @SD<|ai @Pb<|ai @Sj<|ai @Rk<|ai @RC<|ai @QK<|ai @SO<|ai @TZ<|ai @Rc<|ai @TD<|ai @decide_true<|ai @decide_false<|ai @ite_true.{1}<|ai @ite_true.{0}<|ai @ite_false.{1}<|ai @ite_false.{0}<|ai @dite_true.{1}<|ai @dite_true.{0}<|ai @dite_false.{1}<|ai @dite_false.{0}<|ai @beq_self_eq_true.{0}<|ai @bne_self_eq_false.{0}<|ai @eq_self.{1}<|ai @eq_self.{0}<|ai @true_and<|ai @and_true<|ai @if_true.{1}<|ai @if_true.{0}<|ai @if_false.{1}<|ai @if_false.{0}<|ai @true_implies<|ai @false_implies<|ai @implies_true.{1}<|ai @implies_true.{0}<| @Pd
def mx6:=ai @Sc<|ai @not_false_eq_true<|ai @not_true_eq_false<|ai @Prod.mk.injEq.{0,0}<|ai @and_self<|ai @Oz<|ai @Qr<|ai @Tg.{0}<|ai @OQ.{0}<|ai @Oa<|ai @BEq.rfl.{0}<|ai @Ty.int.injEq<|ai @Ty.slice.injEq<|ai @Ty.ptr.injEq<|ai @Ty.st.injEq<|ai @Ty.pair.injEq<|ai @Ty.arr.injEq<|ai @Ty.opt.injEq<|ai @false_and<| @and_false
def mt0:=ai @jk.eq_1<|ai @jk.eq_2<|ai @trace.eq_1<|ai @trace.eq_2<|ai @iE.eq_1<|ai @zL.eq_1<|ai @gQ.eq_1<|ai @vV.eq_1<|ai @dW.eq_1<|ai @dW.eq_2<|ai @dW.eq_3<|ai @dW.eq_4<|ai @dW.eq_5<|ai @dW.eq_6<|ai @dW.eq_7<|ai @gH.eq_1<|ai @gH.eq_2<|ai @AV.refs.eq_1<|ai @AV.refs.eq_2<|ai @AV.refs.eq_3<|ai @AV.refs.eq_4<|ai @AV.refs.eq_5<|ai @LV.refs.eq_1<|ai @LV.refs.eq_2<|ai @LV.refs.eq_3<|ai @LV.refs.eq_4<|ai @LV.refs.eq_5<|ai @LV.refs.eq_6<|ai @LV.refs.eq_7<|ai @LV.refs.eq_8<|ai @LV.refs.eq_9<|ai @LV.refs.eq_10<|ai @CV.refs.eq_1<|ai @CV.refs.eq_2<|ai @aB.refs.eq_1<|ai @aB.refs.eq_2<|ai @dO.eq_1<|ai @dO.eq_2<|ai @Eff.apply.eq_1<|ai @Eff.apply.eq_2<|ai @Eff.apply.eq_3<|ai @Eff.apply.eq_4<|ai @Eff.locs.eq_1<|ai @Eff.locs.eq_2<|ai @Eff.locs.eq_3<|ai @Eff.locs.eq_4<|ai @Eff.news.eq_1<|ai @Eff.news.eq_2<|ai @Eff.refs.eq_1<|ai @Eff.refs.eq_2<|ai @Eff.refs.eq_3<|ai @Eff.refs.eq_4<|ai @zK.eq_1<|ai @zK.eq_2<|ai @cy.eq_1<|ai @cy.eq_2<|ai @cy.eq_3<| @cy.eq_4
def ml0:=ai @le_iff<|ai @DZ<|ai @D0<|ai @pk.eq_1<|ai @pk.eq_2<|ai @l9.eq_1<|ai @l9.eq_2<|ai @l9.eq_3<|ai @l9.eq_4<|ai @AV.leq_z<|ai @LV.leq_z<|ai @aB.leq_arr<|ai @aB.leq.eq_1<|ai @aB.leq.eq_2<|ai @aB.leq.eq_3<|ai @aB.leq.eq_4<|ai @aB.leq.eq_5<|ai @aB.leq.eq_6<|ai @aB.leq.eq_7<|ai @om.eq_1<|ai @om.eq_2<|ai @om.eq_3<|ai @AV.leq.eq_1<|ai @AV.leq.eq_2<|ai @AV.leq.eq_3<|ai @AV.leq.eq_4<|ai @AV.leq.eq_5<|ai @AV.leq.eq_6<|ai @AV.leq.eq_7<|ai @AV.leq.eq_8<|ai @AV.leq.eq_9<|ai @AV.leq.eq_10<|ai @AV.leq.eq_11<|ai @LV.leq.eq_1<|ai @LV.leq.eq_2<|ai @LV.leq.eq_3<|ai @LV.leq.eq_4<|ai @LV.leq.eq_5<|ai @LV.leq.eq_6<|ai @LV.leq.eq_7<|ai @LV.leq.eq_8<|ai @LV.leq.eq_9<|ai @LV.leq.eq_10<|ai @LV.leq.eq_11<|ai @LV.leq.eq_12<|ai @CV.known.eq_1<|ai @CV.known.eq_2<|ai @LV.get_self<|ai @AV.get_self<|ai @LV.get.eq_1<|ai @LV.get.eq_2<|ai @LV.get.eq_3<|ai @LV.get.eq_4<|ai @LV.get.eq_5<|ai @AV.get.eq_1<|ai @AV.get.eq_2<|ai @AV.get.eq_3<|ai @get?.eq_1<|ai @get?.eq_2<|ai @PV.{0}<|ai @and_assoc<|ai @exists_and_left.{1}<|ai @exists_and_left.{0}<|ai @exists_eq_left'.{1}<|ai @exists_eq_left'.{0}<|ai @exists_eq_left.{1}<|ai @exists_eq_left.{0}<|ai @Prod.exists.{0,0}<|ai @exists_const.{1}<|ai @exists_const.{0}<|ai @AV.l.injEq<|ai @LV.ownS.injEq<|ai @LV.ownP.injEq<|ai @Ty.cells.eq_1<|ai @Ty.cells.eq_2<|ai @Ty.cells.eq_3<|ai @Ty.cells.eq_4<|ai @Ty.cells.eq_5<|ai @Ty.cells.eq_6<|ai @Ty.cells.eq_7<|ai @Ty.cells.eq_8<|ai @Ty.cells.eq_9<|ai @Ty.cells.eq_10<|ai @Ty.cells.eq_11<|ai @OS.{0}<|ai @OY.{0}<|ai @LV.fn.injEq<|ai @Ty.join.eq_1<|ai @Ty.join.eq_2<|ai @Ty.join.eq_3<|ai @Ty.join.eq_4<|ai @Ty.join.eq_5<|ai @Ty.join.eq_6<|ai @Ty.join.eq_7<|ai @Ty.join.eq_8<|ai @Ty.join.eq_9<|ai @Ty.join.eq_10<|ai @Ty.join.eq_11<|ai @Ty.join.eq_12<| @iU.eq_1
def ml1:=ai @iU.eq_2<|ai @Ty.isAgg.eq_1<|ai @Ty.isAgg.eq_2<|ai @Ty.isAgg.eq_3<|ai @P5.{0}<|ai @Re.{0}<|ai @S4.{0}<|ai @Q1.{0}<|ai @Qv.{0,0}<|ai @O6.{0,0}<|ai @Pr.{0}<|ai @Td.{0,0}<|ai @RE.{0,0}<|ai @Te.{0}<|ai @Oo.{0}<|ai @OO.{0}<|ai @PI.{0}<|ai @O3.{0}<|ai @S5.{0}<|ai @Tl.{0}<|ai @Qg.{0}<|ai @Tm.{0}<|ai @RB.{0}<|ai @Oy.{0}<|ai @Qt.{0}<|ai @Qz.{0}<|ai @Pn.{0}<|ai @TR.{0}<|ai @TS.{0}<|ai @Pj.{0,0}<|ai @Tq.{0,0}<|ai @SV.{0}<|ai @Q2.{0}<|ai @OV.{0}<|ai @Tf.{0}<|ai @SW.{0}<|ai @SX.{0}<|ai @Rl<|ai @Pv<|ai @SD<|ai @Pb<|ai @Sj<|ai @Rk<|ai @RC<|ai @QK<|ai @SO<|ai @TZ<|ai @Rc<|ai @TD<|ai @decide_true<|ai @decide_false<|ai @ite_true.{1}<|ai @ite_true.{0}<|ai @ite_false.{1}<|ai @ite_false.{0}<|ai @dite_true.{1}<|ai @dite_true.{0}<|ai @dite_false.{1}<|ai @dite_false.{0}<|ai @beq_self_eq_true.{0}<|ai @bne_self_eq_false.{0}<|ai @eq_self.{1}<|ai @eq_self.{0}<|ai @true_and<|ai @and_true<|ai @if_true.{1}<|ai @if_true.{0}<|ai @if_false.{1}<|ai @if_false.{0}<|ai @true_implies<|ai @false_implies<|ai @implies_true.{1}<|ai @implies_true.{0}<|ai @Pd<|ai @Sc<|ai @not_false_eq_true<|ai @not_true_eq_false<|ai @Prod.mk.injEq.{0,0}<|ai @and_self<|ai @Oz<|ai @Qr<|ai @Tg.{0}<|ai @OQ.{0}<|ai @Oa<|ai @BEq.rfl.{0}<|ai @Ty.int.injEq<|ai @Ty.slice.injEq<|ai @Ty.ptr.injEq<|ai @Ty.st.injEq<|ai @Ty.pair.injEq<|ai @Ty.arr.injEq<|ai @Ty.opt.injEq<|ai @false_and<| @and_false
def mr0:=ai @Ty.cells.eq_1<|ai @Ty.cells.eq_2<|ai @Ty.cells.eq_3<|ai @Ty.cells.eq_4<|ai @Ty.cells.eq_5<|ai @Ty.cells.eq_6<|ai @Ty.cells.eq_7<|ai @Ty.cells.eq_8<|ai @Ty.cells.eq_9<|ai @Ty.cells.eq_10<|ai @Ty.cells.eq_11<|ai @zI.eq_1<|ai @aa.freezeAll.eq_1<|ai @aa.freezeAll.eq_2<|ai @aa.freeze.eq_1<|ai @bH.eq_1<|ai @bH.eq_2<|ai @bg.eq_1<|ai @bg.eq_2<|ai @AV.map.eq_1<|ai @AV.map.eq_2<|ai @AV.map.eq_3<|ai @AV.map.eq_4<|ai @AV.map.eq_5<|ai @aB.map.eq_1<|ai @aB.map.eq_2<|ai @aB.map.eq_3<|ai @aB.map.eq_4<|ai @aB.map.eq_5<|ai @LV.thaw.eq_1<|ai @LV.thaw.eq_2<|ai @LV.kill.eq_1<|ai @LV.isOf.eq_1<|ai @LV.isOf.eq_2<|ai @LV.isOf.eq_3<|ai @LV.isOf.eq_4<|ai @LV.isOf.eq_5<|ai @LV.isOf.eq_6<|ai @LV.isOf.eq_7<|ai @LV.isOf.eq_8<|ai @LV.isOf.eq_9<|ai @LV.isOf.eq_10<|ai @P5.{0}<|ai @get?.eq_1<|ai @get?.eq_2<|ai @del.eq_1<|ai @del.eq_2<|ai @upd.eq_1<|ai @upd.eq_2<|ai @Ends.eq_1<|ai @Ends.eq_2<|ai @Ends.eq_3<|ai @nc.eq_1<|ai @nc.eq_2<|ai @nc.eq_3<|ai @uh.eq_1<|ai @uh.eq_2<|ai @dH.eq_1<|ai @dH.eq_2<|ai @dH.eq_3<|ai @dH.eq_4<|ai @dH.eq_5<|ai @FX<|ai @eI.eq_1<|ai @eI.eq_2<|ai @eI.eq_3<|ai @eI.eq_4<|ai @eI.eq_5<|ai @eI.eq_6<|ai @eI.eq_7<|ai @eI.eq_8<|ai @eI.eq_9<|ai @DW.eq_1<|ai @DW.eq_2<|ai @LV.get_self<|ai @AV.get_self<|ai @LV.get.eq_1<|ai @LV.get.eq_2<|ai @LV.get.eq_3<|ai @LV.get.eq_4<|ai @LV.get.eq_5<|ai @AV.get.eq_1<|ai @AV.get.eq_2<|ai @AV.get.eq_3<|ai @dD.eq_1<|ai @dD.eq_2<|ai @Ty.isAgg.eq_1<|ai @Ty.isAgg.eq_2<|ai @Ty.isAgg.eq_3<|ai @Ty.join.eq_1<|ai @Ty.join.eq_2<|ai @Ty.join.eq_3<|ai @Ty.join.eq_4<|ai @Ty.join.eq_5<|ai @Ty.join.eq_6<|ai @Ty.join.eq_7<|ai @Ty.join.eq_8<|ai @Ty.join.eq_9<|ai @Ty.join.eq_10<| @Ty.join.eq_11
def mr1:=ai @Ty.join.eq_12<|ai @iU.eq_1<|ai @iU.eq_2<|ai @Ty.w.eq_1<|ai @Ty.w.eq_2<|ai @Ty.w.eq_3<|ai @Ty.w.eq_4<|ai @Ty.w.eq_5<|ai @LV.names.eq_1<|ai @LV.names.eq_2<|ai @RB.{0}<|ai @Tm.{0}<|ai @PV.{0}<|ai @List.not_mem_nil.{0}<|ai @IS.{0}<|ai @LV.io.eq_1<|ai @LV.io.eq_2<|ai @LV.io.eq_3<|ai @LV.io.eq_4<|ai @LV.io.eq_5<|ai @LV.io.eq_6<|ai @LV.io.eq_7<|ai @LV.io.eq_8<|ai @LV.io.eq_9<|ai @aB.io.eq_1<|ai @aB.io.eq_2<|ai @CV.io.eq_1<|ai @CV.io.eq_2<|ai @ioB.eq_1<|ai @gO.eq_1<|ai @gO.eq_2<|ai @aB.leq.eq_1<|ai @aB.leq.eq_2<|ai @aB.leq.eq_3<|ai @aB.leq.eq_4<|ai @aB.leq.eq_5<|ai @aB.leq.eq_6<|ai @aB.leq.eq_7<|ai @om.eq_1<|ai @om.eq_2<|ai @om.eq_3<|ai @LV.leq_z<|ai @LV.leq.eq_1<|ai @LV.leq.eq_2<|ai @LV.leq.eq_3<|ai @LV.leq.eq_4<|ai @LV.leq.eq_5<|ai @LV.leq.eq_6<|ai @LV.leq.eq_7<|ai @LV.leq.eq_8<|ai @LV.leq.eq_9<|ai @LV.leq.eq_10<|ai @LV.leq.eq_11<|ai @LV.leq.eq_12<|ai @CV.known.eq_1<|ai @CV.known.eq_2<|ai @AV.leq.eq_1<|ai @AV.leq.eq_2<|ai @AV.leq.eq_3<|ai @AV.leq.eq_4<|ai @AV.leq.eq_5<|ai @AV.leq.eq_6<|ai @AV.leq.eq_7<|ai @AV.leq.eq_8<|ai @AV.leq.eq_9<|ai @AV.leq.eq_10<|ai @AV.leq.eq_11<|ai @not_or<|ai @Ph.{0}<|ai @Ty.fields.eq_1<|ai @Ty.fields.eq_2<|ai @Ty.fields.eq_3<|ai @Re.{0}<|ai @S4.{0}<|ai @Q1.{0}<|ai @Qv.{0,0}<|ai @O6.{0,0}<|ai @Pr.{0}<|ai @OY.{0}<|ai @OS.{0}<|ai @Td.{0,0}<|ai @RE.{0,0}<|ai @Te.{0}<|ai @Oo.{0}<|ai @OO.{0}<|ai @PI.{0}<|ai @O3.{0}<|ai @S5.{0}<|ai @Tl.{0}<|ai @Qg.{0}<|ai @Oy.{0}<|ai @Qt.{0}<|ai @Qz.{0}<|ai @Pn.{0}<|ai @TR.{0}<|ai @TS.{0}<|ai @Pj.{0,0}<|ai @Tq.{0,0}<|ai @SV.{0}<| @Q2.{0}
def mr2:=ai @OV.{0}<|ai @Tf.{0}<|ai @SW.{0}<|ai @SX.{0}<|ai @Rl<|ai @Pv<|ai @SD<|ai @Pb<|ai @Sj<|ai @Rk<|ai @RC<|ai @QK<|ai @SO<|ai @TZ<|ai @Rc<|ai @TD<|ai @decide_true<|ai @decide_false<|ai @ite_true.{1}<|ai @ite_true.{0}<|ai @ite_false.{1}<|ai @ite_false.{0}<|ai @dite_true.{1}<|ai @dite_true.{0}<|ai @dite_false.{1}<|ai @dite_false.{0}<|ai @beq_self_eq_true.{0}<|ai @bne_self_eq_false.{0}<|ai @eq_self.{1}<|ai @eq_self.{0}<|ai @true_and<|ai @and_true<|ai @if_true.{1}<|ai @if_true.{0}<|ai @if_false.{1}<|ai @if_false.{0}<|ai @true_implies<|ai @false_implies<|ai @implies_true.{1}<|ai @implies_true.{0}<|ai @Pd<|ai @Sc<|ai @not_false_eq_true<|ai @not_true_eq_false<|ai @Prod.mk.injEq.{0,0}<|ai @and_self<|ai @Oz<|ai @Qr<|ai @Tg.{0}<|ai @OQ.{0}<|ai @Oa<|ai @BEq.rfl.{0}<|ai @Ty.int.injEq<|ai @Ty.slice.injEq<|ai @Ty.ptr.injEq<|ai @Ty.st.injEq<|ai @Ty.pair.injEq<|ai @Ty.arr.injEq<|ai @Ty.opt.injEq<|ai @false_and<| @and_false
end Go.Cm
end
section
namespace Go.Cm
theorem ex0{T:Tab}{l:List Oper}{s s':aa}{C:Prop}(h:exec T l l s=some (C,s'):=by simp only[hT,hX,mx0,mx1,mx2,mx3,mx4,mx5,mx6,effOp,endCall,callOp,appendOp,sliceLV,Ty.fieldTy,Ty.fieldOf,N8,AS,IT,N3,No,AT,N4,N5,reduceIte,reduceDIte,reduceCtorEq];rfl):exec T l l s=some (C,s'):=h
theorem tr0{T:Tab}{l:List Oper}{s s':aa}{C:Prop}{recs:List Rec}(h:trace T l l s=some (C,s',recs):=by simp only[hT,mt0,hX,mx0,mx1,mx2,mx3,mx4,mx5,mx6,effOp,endCall,callOp,appendOp,sliceLV,Ty.fieldTy,Ty.fieldOf,N8,AS,IT,N3,No,AT,N4,N5,reduceIte,reduceDIte,reduceCtorEq];rfl):trace T l l s=some (C,s',recs):=h
section
variable {X:Cx} {s s':aa} {K:Exit->aa->Prop}
theorem aU{id:Nat}{ops:Array Oper}{C:Prop}(hG:aV X.P X.T)(hC:C)(hK:K .normal s')(he:exec X.T ops.toList ops.toList s=some (C,s'):=by exact ex0):J X (.region id ops false) s K:=bZ hG he hC hK
theorem zW{id:Nat}{ops:Array Oper}{C:Prop}{recs:List Rec}(hG:aV X.P X.T)(hC:C)(hK:K .normal s')(he:trace X.T ops.toList ops.toList s=some (C,s',recs):=by exact tr0)(ho:cV ops.toList recs=true:=by kernel_rfl)
  (hf:(recs.flatMap Rec.news).all (fun x=> !s.refs.contains x)=true:=by rfl) (hd:(distinct (s'.env.map Prod.fst)&&distinct (s'.own.map Prod.fst))=true:=by rfl):J X (.region id ops true) s K:=kL hG he ho hf hd hC hK
theorem fB{id:Nat}{ops:Array Oper}{C:Prop}(hG:aV X.P X.T)(hC:C)(hK:K .normal s')(he:exec X.T ops.toList ops.toList s=some (C,s'):=by simp only[hT',hX,mx0,mx1,mx2,mx3,mx4,mx5,mx6,effOp,endCall,callOp,appendOp,sliceLV,Ty.fieldTy,Ty.fieldOf,N8,AS,IT,N3,No,AT,N4,N5,reduceIte,reduceDIte,reduceCtorEq];rfl):J X (.region id ops false) s K:=bZ hG he hC hK
theorem wa{id:Nat}{ops:Array Oper}{C:Prop}{recs:List Rec}(hG:aV X.P X.T)(hC:C)(hK:K .normal s')(he:trace X.T ops.toList ops.toList s=some (C,s',recs):=by simp only[hT',mt0,hX,mx0,mx1,mx2,mx3,mx4,mx5,mx6,effOp,endCall,callOp,appendOp,sliceLV,Ty.fieldTy,Ty.fieldOf,N8,AS,IT,N3,No,AT,N4,N5,reduceIte,reduceDIte,reduceCtorEq];rfl)(ho:cV ops.toList recs=true:=by kernel_rfl)
  (hf:(recs.flatMap Rec.news).all (fun x=> !s.refs.contains x)=true:=by rfl) (hd:(distinct (s'.env.map Prod.fst)&&distinct (s'.own.map Prod.fst))=true:=by rfl):J X (.region id ops true) s K:=kL hG he ho hf hd hC hK
theorem bw{c:Operand}{x y:Code}{t:Bool}(h1:t=true->J X x s K)(h2:t=false->J X y s K)(hc:leaf (aP s c)=some (.z .bool t):=by simp only[mx0,mx1,mx2,mx3,mx4,mx5,mx6,effOp,endCall,callOp,appendOp,sliceLV,Ty.fieldTy,Ty.fieldOf,N8,AS,IT,N3,No,AT,N4,N5,reduceIte,reduceDIte,reduceCtorEq];rfl):J X (.cond c x y) s K:=FW hc h1 h2
theorem s_q{id:Nat}{ops:Array Oper}{c2:Code}{C:Prop}(hG:aV X.P X.T)(hC:C)(hK:J X c2 s' K)(he:exec X.T ops.toList ops.toList s=some (C,s'):=by exact ex0):J X (.seq (.region id ops false) c2) s K:=al (bZ hG he hC (ag hK))
theorem s_g{id:Nat}{ops:Array Oper}{c2:Code}{C:Prop}(hG:aV X.P X.T)(hK:J X c2 s' K)(he:exec X.T ops.toList ops.toList s=some (C,s'):=by exact ex0)(hC:C:=by first|trivial|omega|(simp;done)|(simp;omega)):J X (.seq (.region id ops false) c2) s K:=al (bZ hG he hC (ag hK))
theorem s_d{id:Nat}{ops:Array Oper}{c2:Code}{C:Prop}{recs:List Rec}(hG:aV X.P X.T)(hC:C)(hK:J X c2 s' K)(he:trace X.T ops.toList ops.toList s=some (C,s',recs):=by exact tr0)(ho:cV ops.toList recs=true:=by kernel_rfl)
  (hf:(recs.flatMap Rec.news).all (fun x=> !s.refs.contains x)=true:=by rfl) (hd:(distinct (s'.env.map Prod.fst)&&distinct (s'.own.map Prod.fst))=true:=by rfl):J X (.seq (.region id ops true) c2) s K:=al (kL hG he ho hf hd hC (ag hK))
end
theorem qm{α:Type}{P:α->Prop}{q:Prop}(hq:q)(h:(∃z,P z)=q:=by simp only[ml0,ml1,N8,AS,IT,N3,No,AT,N4,N5,reduceIte,reduceDIte,reduceCtorEq];rfl):∃z,P z:=h▸hq
theorem q_l{p q:Prop}(hq:q)(h:p=q:=by simp only[ml0,ml1,N8,AS,IT,N3,No,AT,N4,N5,reduceIte,reduceDIte,reduceCtorEq];rfl):p:=h▸hq
theorem q_e{p:List Nat->Prop}{q:Prop}(l:List Nat)(hq:q)(h:p l=q:=by simp only[hT,hU,mr0,mr1,mr2,isNilP,N8,AS,IT,N3,No,AT,N4,N5,reduceIte,reduceDIte,reduceCtorEq];rfl):∃l,p l:=⟨l,h▸hq⟩
def bt:=ai @decide_eq_true_eq<|ai @decide_eq_false_iff_not<|ai @beq_iff_eq.{0}<|ai @bne_iff_ne.{0}<|ai @Pc @N9
def bf:=ai @decide_eq_true_eq<|ai @decide_eq_false_iff_not<|ai @beq_eq_false_iff_ne.{0}<|ai @bne_eq_false_iff_eq.{0}<|ai @Bool.not_eq_false' @Bool.and_eq_false_imp
def ba:=And.intro and_true true_and
theorem v_h{P:Program}{T:Tab}{args:List LV}{os os':List aB}{code:Code}{fn:Func}{rs:List RV}(g:aV P T)(h:∀X:Cx,X.P=P->X.T=T->X.calm->aV X.P X.T->J X code {env:=aD 0 args,own:=af ioB os} (Ends T fn rs os'))
  (hl:args.length<=T.N:=by exact Nat.le_of_ble_eq_true rfl) (ho:os'.length=os.length:=by rfl):args.length<=T.N/\os'.length=os.length/\∀X:Cx,X.P=P->X.T=T->X.calm->J X code {env:=aD 0 args,own:=af ioB os} (Ends T fn rs os'):=
 ⟨hl,ho,fun X hP hT hr=>h X hP hT hr (by rw[hP,hT];exact g)⟩
theorem tc{P:Program}{T:TypeId}{t:Ty}{l:List (TypeId×Ty)}(h:cE P T t)(hl:∀t u,get? l t=some u->cE P t u):∀t' u,get? ((T,t)::l) t'=some u->cE P t' u:=zJ h hl
theorem cc{B:av}{P:Program}{F:FuncId->List Nat}{f:FuncId}{fn:Func}{c:Con}{l:List (FuncId×Con)}(hf:P.funcs[f]? =some fn)(hv:Valid B P f c (F f))(hl:∀f c,get? l f=some c->py B P f c (F f))(hn:(fn.name== "runtime.NumGoroutine")=false:=by kernel_rfl)(hb:fn.body.isNone=false:=by rfl):∀f' c',get? ((f,c)::l) f'=some c'->py B P f' c' (F f'):=DX (Lf hf hn hb hv) hl
end Go.Cm
end
section
namespace Go.Cm
open Go.RowKit
theorem F9{B:av}{w w':World}(h:B.On w)(hb:Below w.heap.size w w'):B.On w':=
 ⟨Og h.1 hb.size,fun b hbn=>(hb.block b (OC hbn h.1)).trans (h.2 b hbn)⟩
theorem pD:∀{rs:List RV} (vs:List Value),rs.all (fun r=> !r.isOwn)=true->fk rs vs
 | [],_,_=>by simp[fk]
 |_::_,[],_=>by simp[fk]
 |r::rs,v::vs,h=>by
  simp only[Qg,N9,Pc] at h;exact⟨fun h1=>absurd h1 (by rw[h.1];decide),pD vs h.2⟩
theorem ry{w w':World}{O:Nat->Prop}{ρ0:Nat->Value}{fr:List Nat}{rs:List RV}{vs:List Value}(hb:Below w.heap.size w w')(hr:∀(H M:Nat->Prop),aY (jP H w' M) rs vs)(hp:rs.all (fun r=> !r.isOwn)=true:=by rfl):
  ∃(vs':List Value) (ρ1:Nat->Value),Ending.returned (pV vs)= .returned (pV vs')/\([]:List aB).length=([]:List aB).length/\Bel (fun b=>w.heap.size<=b∨bj ρ0 [] b) w w'/\
   (∀k,¬(ioB<=k/\k<ioB+([]:List aB).length/\fr.contains (k-ioB)=true)->ρ1 k=ρ0 k)/\
   aY (jP (cK (hot O ρ1 (af ioB [])) rs vs') w' (fun b=>w.heap.size<=b∨bj ρ0 [] b)) rs vs'/\fk rs vs'/\
   (∀p∈af ioB ([]:List aB),bW (cK (hot O ρ1 (af ioB [])) rs vs') w' ρ1 (fun b=>w.heap.size<=b∨bj ρ0 [] b) p)/\
   mX ρ1 (af ioB [])/\∀b,bj ρ1 [] b-> ¬cK (fun _=>False) rs vs' b:=
 ⟨vs,ρ0,rfl,rfl,⟨hb.os,hb.tape,hb.output,hb.size,fun k hk _=>hb.block k hk⟩,fun _ _=>rfl,hr _ _,pD vs hp,fun p hp=>by simp[af] at hp,S3,fun b hb=>by simp[bj,af] at hb⟩
theorem BC{P:Program}{f:FuncId}{vals:Array Value}{w:World}{O:Nat->Prop}{ρ0:Nat->Value}{v:Value}{t:Ty}{y:t.D}{fr:List Nat}(h:Calls P f vals w fun e w'=>e= .returned v/\Below w.heap.size w w')(hv:∀(H:Nat->Prop) w,aJ H w (fun _=>undef) (.z t y) v):
  Calls P f vals w fun e w'=>∃(vs:List Value) (ρ1:Nat->Value),e= .returned (pV vs)/\([]:List aB).length=([]:List aB).length/\Bel (fun b=>w.heap.size<=b∨bj ρ0 [] b) w w'/\
   (∀k,¬(ioB<=k/\k<ioB+([]:List aB).length/\fr.contains (k-ioB)=true)->ρ1 k=ρ0 k)/\
   aY (jP (cK (hot O ρ1 (af ioB [])) [RV.z t y] vs) w' (fun b=>w.heap.size<=b∨bj ρ0 [] b)) [RV.z t y] vs/\fk [RV.z t y] vs/\
   (∀p∈af ioB ([]:List aB),bW (cK (hot O ρ1 (af ioB [])) [RV.z t y] vs) w' ρ1 (fun b=>w.heap.size<=b∨bj ρ0 [] b) p)/\
   mX ρ1 (af ioB [])/\∀b,bj ρ1 [] b-> ¬cK (fun _=>False) [RV.z t y] vs b:=
 h.mono fun e w' ⟨he,hb⟩=>by subst he;exact ry (vs:=[v]) hb (fun H M=>⟨hv _ _,trivial⟩)
theorem wb{R:LV->Value->Prop}{x:LV}{vals:Array Value}(h:aY R [x] vals.toList):∃v,vals= #[v]/\R x v:=by
 obtain⟨l⟩:=vals;match l,h with
 | [v],h=>exact⟨v,rfl,h.1⟩
 |_::_::_,h=>exact h.2.elim
theorem xH{R:LV->Value->Prop}{x y:LV}{vals:Array Value}(h:aY R [x,y] vals.toList):∃u v,vals= #[u,v]/\R x u/\R y v:=by
 obtain⟨l⟩:=vals;match l,h with
 | [u,v],h=>exact⟨u,v,rfl,h.1,h.2.1⟩
 | [_],h=>exact h.2.elim
 |_::_::_::_,h=>exact h.2.2.elim
theorem zX{R:LV->Value->Prop}{x y z:LV}{vals:Array Value}(h:aY R [x,y,z] vals.toList):∃u v t,vals= #[u,v,t]/\R x u/\R y v/\R z t:=by
 obtain⟨l⟩:=vals;match l,h with
 | [u,v,t],h=>exact⟨u,v,t,rfl,h.1,h.2.1,h.2.2.1⟩
 | [_],h=>exact h.2.elim
 | [_,_],h=>exact h.2.2.elim
 |_::_::_::_::_,h=>exact h.2.2.2.elim
end Go.Cm
end
section
namespace Go.Cm
theorem w32{x:Int}(h0:0<=x)(h1:x<4294967296):OG.wrap x=x:=by
 exact IntWalk.u32_in x (by omega)
theorem w64{x:Int}(h0:0<=x)(h1:x<18446744073709551616):N2.wrap x=x:=by
 exact IntWalk.u64_in x (by omega)
theorem wi{x:Int}(h0: -9223372036854775808<=x)(h1:x<9223372036854775808):IN.wrap x=x:=by
 exact IntWalk.i64_in x (by omega)
def I64(n:Int):Prop:= -9223372036854775808<=n/\n<=9223372036854775807
def LB:Int:=1000000000
def valL:List Int->Int
 | []=>0
 |x::r=>x+LB*valL r
def Lim(l:List Int):Prop:=∀x∈l,0<=x/\x<LB
def Cano(l:List Int):Prop:=Lim l/\l.getLastD 1≠0
def CAP:Nat:=1000000000000
theorem wo{x:Int}(h0: -9223372036854775808<=x:=by omega)(h1:x<9223372036854775808:=by omega):IN.wrap x=x:=wi h0 h1
theorem valL_append(a b:List Int):valL (a++b)=valL a+LB^a.length*valL b:=by
 induction a with
 |nil=>simp[valL]
 |cons x r ih=>simp only[OS,valL,ih,Oo,OB];rw[OH,Int.add_assoc,OP (LB^r.length) LB,Ow]
theorem valL_one(x:Int):valL [x]=x:=by simp[valL]
theorem Lim.append{a b:List Int}(ha:Lim a)(hb:Lim b):Lim (a++b):=fun x hx=>(Oq.1 hx).elim (ha x) (hb x)
theorem Lim.one{x:Int}(h0:0<=x)(h1:x<LB):Lim [x]:=fun y hy=>by simp at hy;subst hy;exact⟨h0,h1⟩
theorem valL_nonneg{l:List Int}(h:Lim l):0<=valL l:=by
 induction l with
 |nil=>simp[valL]
 |cons x r ih=>
  have h1:=h x (by simp);have h2:=ih fun y hy=>h y (by simp[hy]);have:0<=LB*valL r:=Pz (by decide) h2;simp only[valL];omega
theorem valL_lt{l:List Int}(h:Lim l):valL l<LB^l.length:=by
 induction l with
 |nil=>simp[valL]
 |cons x r ih=>
  have h1:=h x (by simp);have h2:=ih fun y hy=>h y (by simp[hy]);simp only[valL,Oo,OB];have h3:LB*valL r<=LB*(LB^r.length-1):=Oe (by omega) (by decide);rw[QY,Qe] at h3;rw[OP (LB^r.length)];omega
theorem valL_inj:∀{a b:List Int},Lim a->Lim b->a.length=b.length->valL a=valL b->a=b
 | [],[],_,_,_,_=>rfl
 |x::r,y::s,ha,hb,hl,hv=>by
  have h1:=ha x (by simp);have h2:=hb y (by simp);simp only[valL] at hv;have hm:x%LB=y%LB:=by
   (have:(x+LB*valL r)%LB=(y+LB*valL s)%LB:=by rw[hv]);rwa [P3,P3] at this
  rw[PW h1.1 h1.2,PW h2.1 h2.2] at hm;subst hm;have hv2:valL r=valL s:=R3 (a:=LB) (by decide) (by omega);rw[valL_inj (fun z hz=>ha z (by simp[hz])) (fun z hz=>hb z (by simp[hz])) (by simpa using hl) hv2]
 | [],_::_,_,_,hl,_=>by simp at hl
 |_::_,[],_,_,hl,_=>by simp at hl
theorem getLastD_append{a b:List Int}{d:Int}(hb:b≠[]):(a++b).getLastD d=b.getLastD d:=by
 cases b with
 |nil=>exact absurd rfl hb
 |cons x r=>simp[Ou,TE,OI hb]
theorem valL_ge{l:List Int}(h:Cano l)(hne:l≠[]):LB^(l.length-1)<=valL l:=by
 obtain⟨h1,h2⟩:=h;have hl:=Pf hne;have hlast:l.getLastD 1=l.getLast hne:=by rw[Ou,OI hne];rfl
 rw[hlast] at h2;have h3:=h1 (l.getLast hne) (SB hne);have h4:Lim l.dropLast:=fun x hx=>h1 x (Qm l hx);have h5:=valL_nonneg h4;have h6:valL l=valL l.dropLast+LB^l.dropLast.length*l.getLast hne:=by
  conv=>lhs;rw[<- hl]
  rw[valL_append,valL_one]
 rw[h6,PO];have h7:0<=LB^(l.length-1):=RJ (by decide);have h8:LB^(l.length-1)*1<=LB^(l.length-1)*l.getLast hne:=Oe (by omega) h7;omega
theorem pow_mono{a b:Nat}(h:a<=b):LB^a<=LB^b:=by
 induction h with
 |refl=>exact TF _
 | @step m h ih=>
  rw[OB];have:0<=LB^m:=RJ (show (0:Int)<=LB by decide);have h2:LB^m*1<=LB^m*LB:=Oe (by decide) this;omega
theorem Cano.eq{a b:List Int}(ha:Cano a)(hb:Cano b)(h:valL a=valL b):a=b:=by
 have key:∀{a b:List Int},Cano a->Cano b->valL a=valL b-> ¬a.length<b.length:=by
  intro a b ha hb h hlt;have hne:b≠[]:=by intro e;subst e;simp at hlt
  have h1:=valL_lt ha.1;have h2:=valL_ge hb hne;have h3:=pow_mono (show a.length<=b.length-1 by omega);omega
 exact valL_inj ha.1 hb.1 (by have:=key ha hb h;have:=key hb ha h.symm;omega) h
def limbs(n:Nat):List Int:=if h:n=0 then [] else ((n%1000000000:Nat):Int)::limbs (n/1000000000)
termination_by n
decreasing_by omega
theorem limbs_val(n:Nat):valL (limbs n)=n:=by
 induction n using limbs.induct with
 |case1=>simp[limbs,valL]
 |case2 n h ih=>
  rw[limbs,dif_neg h,valL,ih];unfold LB;omega
theorem limbs_nil{n:Nat}:limbs n=[]↔n=0:=by
 rw[limbs];split;·simp[*]
 ·simp[*]
theorem limbs_can(n:Nat):Cano (limbs n):=by
 induction n using limbs.induct with
 |case1=>simp[limbs,Cano,Lim]
 |case2 n h ih=>
  rw[limbs,dif_neg h];refine⟨fun x hx=>?_,?_⟩
  ·(rcases IS.1 hx with rfl|hx;·unfold LB;omega);·exact ih.1 x hx
  ·by_cases e:limbs (n/1000000000)=[]
   ·have:=limbs_nil.1 e;rw[e];simp;omega
   ·have:=getLastD_append (a:=[((n%1000000000:Nat):Int)]) (d:=1) e;rw[Sp] at this;rw[this];exact ih.2
theorem Cano.limbs{a:List Int}(h:Cano a){n:Nat}(hv:valL a=n):a=limbs n:=h.eq (limbs_can n) (by rw[hv,limbs_val])
theorem limbs_len{n k:Nat}(h:(n:Int)<LB^k):(limbs n).length<=k:=by
 by_cases e:limbs n=[]
 ·simp[e]
 ·have h1:=valL_ge (limbs_can n) e;rw[limbs_val] at h1;by_cases hk:(limbs n).length<=k;·exact hk
  ·have:=pow_mono (show k<=(limbs n).length-1 by omega);omega
theorem take_succ_val{l:List Int}{k:Nat}(h:k<l.length):valL (l.take (k+1))=valL (l.take k)+LB^k*l.getD k 0:=by
 rw[S6,valL_append];simp only[Of,Pq (QN h),AI h,SY,valL_one,sh,OV]
theorem Lim.getD{l:List Int}(h:Lim l)(k:Nat):0<=l.getD k 0/\l.getD k 0<LB:=by
 rw[sh];by_cases hk:k<l.length;·rw[AI hk];exact h _ (OE hk)
 ·rw[OA (by omega)];exact⟨by simp,by simp;decide⟩
theorem take_val(l:List Int)(k:Nat):valL (l.take (k+1))=valL (l.take k)+LB^k*l.getD k 0:=by
 by_cases h:k<l.length
 ·exact take_succ_val h
 ·rw[Oj (by omega),Oj (by omega),sh,OA (by omega)];simp
theorem cano_of_ge{l:List Int}(h:Lim l)(hv:l≠[]->LB^(l.length-1)<=valL l):Cano l:=by
 refine⟨h,fun h0=>?_⟩;by_cases hne:l=[];·subst hne;simp at h0
 ·have hl:=Pf hne;have hlast:l.getLastD 1=l.getLast hne:=by rw[Ou,OI hne];rfl
  rw[hlast] at h0;have h4:Lim l.dropLast:=fun x hx=>h x (Qm l hx);have h6:valL l=valL l.dropLast+LB^l.dropLast.length*l.getLast hne:=by
   conv=>lhs;rw[<- hl]
   rw[valL_append,valL_one]
  rw[h0,Sk,RX] at h6;have h7:=valL_lt h4;rw[PO] at h7;have:=hv hne;omega
theorem tdiv_nn{n:Int}(h:0<=n):n.tdiv 1000000000=n/LB/\n.tmod 1000000000=n%LB:=
 ⟨Qw h,Q4 h⟩
theorem fO{l:List Int}{k:Nat}:nth (.int .u32) l (k:Int)=l.getD k 0:=rfl
theorem zY{m o out:List Int}{k:Nat}{c n:Int}(hm:Lim m)(ho:Lim o)(g2:out.length=k)(g3:Lim out)(g4:0<=c)(g5:c<=1)(g6:valL out+LB^k*c=valL (m.take k)+valL (o.take k))(hn:n=m.getD k 0+c+o.getD k 0):
  Lim (out++ [n.tmod 1000000000])/\0<=OG.wrap (n.tdiv 1000000000)/\OG.wrap (n.tdiv 1000000000)<=1/\valL (out++ [n.tmod 1000000000])+LB^(k+1)*OG.wrap (n.tdiv 1000000000)=valL (m.take (k+1))+valL (o.take (k+1)):=by
 have hx:=hm.getD k;have hy:=ho.getD k;have hB:LB=1000000000:=rfl;obtain⟨e1,e2⟩:=tdiv_nn (n:=n) (by omega);have hq:0<=n/LB/\n/LB<=1:=by rw[hB] at hx hy ⊢;omega
 have hr:0<=n%LB/\n%LB<LB:=by rw[hB];omega
 rw[e1,e2,w32 hq.1 (by omega)];refine⟨g3.append (Lim.one hr.1 hr.2),hq.1,hq.2,?_⟩;rw[valL_append,valL_one,g2,take_val,take_val,OB];have h1:n%LB+LB*(n/LB)=n:=Pt n LB;have h2:LB^k*(n%LB)+LB^k*LB*(n/LB)=LB^k*n:=by rw[Ow,<- OH,h1]
 have h3:LB^k*n=LB^k*m.getD k 0+LB^k*c+LB^k*o.getD k 0:=by rw[hn,OH,OH]
 omega
theorem uv{x c y:Int}(hx:0<=x/\x<LB)(hy:0<=y/\y<LB)(hc:0<=c/\c<=1):OG.wrap (x+c)=x+c/\OG.wrap (OG.wrap (x+c)+y)=x+c+y:=by
 have hB:LB=1000000000:=rfl;have h1:OG.wrap (x+c)=x+c:=w32 (by omega) (by omega);exact⟨h1,by rw[h1];exact w32 (by omega) (by omega)⟩
theorem xI{m o out:List Int}{c:Int}(hm:Cano m)(ho:Cano o)(hl:o.length<=m.length)(g2:out.length=m.length)(g3:Lim out)(g4:0<=c)(g5:c<=1)(g6:valL out+LB^m.length*c=valL m+valL o):
  (0<c->out++ [c]=limbs (valL m+valL o).toNat)/\(¬0<c->out=limbs (valL m+valL o).toNat):=by
 have h1:=valL_nonneg hm.1;have h2:=valL_nonneg ho.1;have hB:LB=1000000000:=rfl;refine⟨fun h=>?_,fun h=>?_⟩
 ·refine Cano.limbs ⟨g3.append (Lim.one g4 (by omega)),?_⟩ ?_;·rw[getLastD_append (by simp)];simp;omega
  ·rw[valL_append,valL_one,g2];omega
 ·have hc:c=0:=by omega
  subst hc;refine Cano.limbs (cano_of_ge g3 fun hne=>?_) (by omega);have hmne:m≠[]:=by
   intro e;subst e;exact hne (N7 (by simpa using g2))
  have:=valL_ge hm hmne;rw[g2];omega
def dec(x:Bool×List Int):Int:=if x.1=true then-valL x.2 else valL x.2
def enc(n:Int):Bool×List Int:=(decide (n<0),limbs n.natAbs)
def WOK(x:Bool×List Int):Prop:=Cano x.2/\(x.2=[]->x.1=false)
theorem valL_pos{l:List Int}(h:Cano l):0<valL l↔l≠[]:=by
 constructor;·rintro h1 rfl;simp[valL] at h1
 ·intro hne;have h1:=valL_ge h hne;have h2:0<LB^(l.length-1):=QP (by decide);omega
theorem bG(n:Int):dec (enc n)=n:=by
 unfold dec enc;simp only[decide_eq_true_eq,limbs_val];split<;>omega
theorem enc_ok(n:Int):WOK (enc n):=by
 refine⟨limbs_can _,fun h=>?_⟩;have:=limbs_nil.1 h;simp[enc];omega
theorem WOK.enc{x:Bool×List Int}(h:WOK x):enc (dec x)=x:=by
 obtain⟨s,l⟩:=x;obtain⟨h1,h2⟩:=h;simp only at h1 h2;have h3:=valL_nonneg h1.1;have h4:=valL_pos h1;unfold Cm.enc dec;cases s with
 |true=>
  have hne:l≠[]:=fun e=>by have:=h2 e;cases this
  have:=h4.2 hne;simp only[if_true];have e1:decide (-valL l<0)=true:=by simp;omega
  rw[e1,<- h1.limbs (n:=(-valL l).natAbs) (by omega)]
 |false=>
  simp only[Pd,if_false];have e1:decide (valL l<0)=false:=by simp;omega
  rw[e1,<- h1.limbs (n:=(valL l).natAbs) (by omega)]
theorem WOK.eq{x y:Bool×List Int}(hx:WOK x)(hy:WOK y)(h:dec x=dec y):x=y:=by rw[<- hx.enc,<- hy.enc,h]
theorem Ga{s:Bool}{l:List Int}(h:Lim l):WOK (s&&decide (0<valL l),limbs (valL l).toNat)/\dec (s&&decide (0<valL l),limbs (valL l).toNat)=dec (s,l):=by
 have h1:=valL_nonneg h;refine⟨⟨limbs_can _,fun e=>?_⟩,?_⟩
 ·have:=limbs_nil.1 e;have:¬0<valL l:=by omega
  simp[this]
 ·unfold dec;simp only[limbs_val];cases s<;>simp;·omega
  ·split<;>omega
theorem uw{s:Bool}{l:List Int}(h:Lim l):(s&&decide (0<valL l),limbs (valL l).toNat)=enc (dec (s,l)):=by
 obtain⟨h1,h2⟩:=Ga (s:=s) h;rw[<- h2,h1.enc]
theorem last_eq{l:List Int}(h:0<l.length):nth (.int .u32) l ((l.length:Int)-1)=l.getLastD 1:=by
 have hne:l≠[]:=by intro e;subst e;simp at h
 have e:((l.length:Int)-1).toNat=l.length-1:=by omega
 show l.getD _ _=_;rw[e,sh,AI (by omega),Ou,Qc,AI (by omega)];rfl
theorem drop_zero_val{l:List Int}(hl:Lim l)(h:0<l.length)(h0:l.getLastD 1=0):valL l.dropLast=valL l/\Lim l.dropLast:=by
 have hne:l≠[]:=by intro e;subst e;simp at h
 have hd:=Pf hne;have hlast:l.getLastD 1=l.getLast hne:=by rw[Ou,OI hne];rfl
 refine⟨?_,fun x hx=>hl x (Qm l hx)⟩;conv=>rhs;rw[<- hd]
 rw[valL_append,valL_one,<- hlast,h0];omega
theorem take_last{l:List Int}(h:0<l.length):OM (IN.wrap ((l.length:Int)-1)).toNat l=l.dropLast∨ ¬(l.length:Int)<9223372036854775808:=by
 by_cases hb:(l.length:Int)<9223372036854775808
 ·left;rw[wo];have e:((l.length:Int)-1).toNat=l.length-1:=by omega
  rw[e,Sq]
 ·exact .inr hb
theorem D5{s:Bool}{m z:List Int}(g1:Lim z)(g2:valL z=valL m)(h:0<z.length->z.getLastD 1≠0):(s&&decide ((0:Int)<(z.length:Int)),z)=enc (dec (s,m)):=by
 have hz:Cano z:=⟨g1,by
  by_cases e:0<z.length
  ·exact h e
  ·have:z=[]:=N7 (by omega);subst this;simp⟩
 have e:dec (s,m)=dec (s,z):=by simp[dec,g2]
 have h0:=valL_nonneg g1;have h1:decide ((0:Int)<(z.length:Int))=decide (0<valL z):=by
  have:=valL_pos hz;by_cases hl:z=[];·subst hl;simp[valL]
  ·have h2:0<z.length:=By.2 hl;have h3:=this.2 hl;simp[h2,h3]
 have h2:limbs (valL z).toNat=z:=(hz.limbs (by omega)).symm;rw[e,<- uw g1,h1,h2]
theorem whole_round{m z:List Int}(g1:Lim z)(g2:valL z=valL m)(g3:z.length<=m.length)(hz:(0:Int)<(z.length:Int))(hb:z.length<1000000000000)(h0:nth (.int .u32) z (IN.wrap ((z.length:Int)-1))=0):
  Lim (OX (Px 0) (OM (IN.wrap ((z.length:Int)-1)).toNat z))/\valL (OX (Px 0) (OM (IN.wrap ((z.length:Int)-1)).toNat z))=valL m/\
   (OX (Px 0) (OM (IN.wrap ((z.length:Int)-1)).toNat z)).length<=m.length/\(OX (Px 0) (OM (IN.wrap ((z.length:Int)-1)).toNat z)).length<z.length:=by
 have hz':0<z.length:=by omega
 have e:=(take_last hz').resolve_right (by omega);rw[wo,last_eq hz'] at h0;obtain⟨d1,d2⟩:=drop_zero_val g1 hz' h0;rw[show Px 0=0 from rfl,Oy,e];exact⟨d2,by rw[d1,g2],by simp;omega,by simp;omega⟩
theorem BD(s:Bool)(l:List Int):dec (!s,l)= -dec (s,l):=by
 cases s<;>simp[dec]
theorem fP{x:Bool×List Int}(h:WOK x):((x.2.length:Int)=0↔dec x=0)/\(¬(x.2.length:Int)=0->(x.1=true->dec x<0)/\(x.1=false->0<dec x)):=by
 obtain⟨h1,h2⟩:=h;have h3:=valL_pos h1;have h4:=valL_nonneg h1.1;have h5:(x.2.length:Int)=0↔x.2=[]:=by
  constructor;·intro h;exact N7 (by omega)
  ·intro h;rw[h];rfl
 rw[h5];refine⟨⟨fun e=>?_,fun e=>?_⟩,fun hne=>?_⟩;·simp[dec,e,valL]
 ·by_cases hne:x.2=[]
  ·exact hne
  ·have:=h3.2 hne;unfold dec at e;split at e<;>omega
 ·have:=h3.2 hne;refine⟨fun e=>?_,fun e=>?_⟩;·rw[dec,if_pos e];omega
  ·rw[dec,if_neg (by simp[e])];exact this
def bq(a b:Int):Int:=if a<b then-1 else if b<a then 1 else 0
theorem lI{a b:Int}:bq a b=0↔a=b:=by
 unfold bq;by_cases h1:a<b;·rw[if_pos h1];exact⟨fun h=>(by cases h),fun h=>by omega⟩
 ·rw[if_neg h1];by_cases h2:b<a;·rw[if_pos h2];exact⟨fun h=>(by cases h),fun h=>by omega⟩
  ·rw[if_neg h2];exact⟨fun _=>by omega,fun _=>rfl⟩
theorem cmp_len{a b:List Int}(ha:Cano a)(hb:Cano b)(h:a.length<b.length):valL a<valL b:=by
 have hne:b≠[]:=by intro e;subst e;simp at h
 have h1:=valL_lt ha.1;have h2:=valL_ge hb hne;have h3:=pow_mono (show a.length<=b.length-1 by omega);omega
theorem cmp_at{a b:List Int}(ha:Lim a)(hb:Lim b)(hl:a.length=b.length){k:Nat}(hk:k<a.length)(h:a.drop (k+1)=b.drop (k+1))(hlt:a.getD k 0<b.getD k 0):valL a<valL b:=by
 have e1:valL a=valL (a.take (k+1))+LB^(k+1)*valL (a.drop (k+1)):=by
  conv=>lhs;rw[<- O5 (k+1) a]
  rw[valL_append,Of,Pq (by omega)]
 have e2:valL b=valL (b.take (k+1))+LB^(k+1)*valL (b.drop (k+1)):=by
  conv=>lhs;rw[<- O5 (k+1) b]
  rw[valL_append,Of,Pq (by omega)]
 rw[e1,e2,h,take_val,take_val];have h1:=valL_lt (l:=a.take k) (fun x hx=>ha x (Pi hx));have h2:=valL_nonneg (l:=b.take k) (fun x hx=>hb x (Pi hx));rw[Of,Pq (by omega)] at h1;have h3:LB^k*(a.getD k 0+1)<=LB^k*b.getD k 0:=Oe (by omega) (RJ (by decide));rw[OH,Qe] at h3;omega
def padL:Nat->Nat->List Int
 |_,0=>[]
 |v,k+1=>((v%1000000000:Nat):Int)::padL (v/1000000000) k
theorem padL_len:∀(v k:Nat),(padL v k).length=k
 |_,0=>rfl
 |v,k+1=>by simp[padL,padL_len]
theorem padL_lim:∀(v k:Nat),Lim (padL v k)
 |_,0=>fun x hx=>by simp[padL] at hx
 |v,k+1=>fun x hx=>by
  rcases IS.1 hx with rfl|hx;·unfold LB;omega
  ·exact padL_lim _ k x hx
theorem padL_val:∀(v k:Nat),(v:Int)<LB^k->valL (padL v k)=v
 |v,0,h=>by
  have:v=0:=by simp at h;omega
  subst this;rfl
 |v,k+1,h=>by
  have:((v/1000000000:Nat):Int)<LB^k:=by
   rw[OB] at h;(have e:((v/1000000000:Nat):Int)=(v:Int)/LB:=by unfold LB;omega);rw[e];exact Pg (by decide) h
  rw[padL,valL,padL_val _ k this];unfold LB;omega
theorem Lim.pad{l:List Int}(h:Lim l){v k:Nat}(hl:l.length=k)(hv:valL l=v):l=padL v k:=
 valL_inj h (padL_lim v k) (by rw[hl,padL_len]) (by rw[hv,padL_val];rw[<- hv,<- hl];exact valL_lt h)
theorem len_le{a b:List Int}(ha:Cano a)(hb:Cano b)(h:valL a<=valL b):a.length<=b.length:=by
 by_cases hl:b.length<a.length
 ·have:=cmp_len hb ha hl;omega
 ·omega
theorem minus_round{m o out:List Int}{k:Nat}{b n b':Int}(g2:out.length=k)(g3:Lim out)(g6:valL out+valL (o.take k)=valL (m.take k)+LB^k*b)(hn:0<=n)(hn2:n<LB)(he:n=m.getD k 0-b-o.getD k 0+LB*b'):
  Lim (out++ [n])/\valL (out++ [n])+valL (o.take (k+1))=valL (m.take (k+1))+LB^(k+1)*b':=by
 refine⟨g3.append (Lim.one hn hn2),?_⟩;rw[valL_append,valL_one,g2,take_val,take_val,OB];have h1:LB^k*n=LB^k*m.getD k 0-LB^k*b-LB^k*o.getD k 0+LB^k*LB*b':=by
  rw[he,OH,QY,QY,Ow]
 omega
theorem minus_end{m o out:List Int}{b:Int}(hm:Cano m)(ho:Cano o)(hle:valL o<=valL m)(g2:out.length=m.length)(g3:Lim out)(g4:0<=b)(g6:valL out+valL (o.take m.length)=valL m+LB^m.length*b):out=padL (valL m-valL o).toNat m.length:=by
 rw[Oj (len_le ho hm hle)] at g6;have h1:=valL_lt g3;rw[g2] at h1;have h2:0<LB^m.length:=QP (by decide);have hb:b=0:=by
  by_cases hb:b=0
  ·exact hb
  ·have:LB^m.length*1<=LB^m.length*b:=Oe (by omega) (by omega);omega
 subst hb;exact g3.pad g2 (by omega)
theorem plus_len{m o:List Int}(hm:Cano m)(ho:Cano o):(limbs (valL m+valL o).toNat).length<=m.length+o.length:=by
 have h1:=valL_lt hm.1;have h2:=valL_lt ho.1;have h3:=valL_nonneg hm.1;have h4:=valL_nonneg ho.1;have hpos:∀k,1<=LB^k:=fun k=>(QP (show (0:Int)<LB by decide):0<LB^k);by_cases e1:m=[];·subst e1;rw[show valL ([]:List Int)=0 from rfl,Sl];exact limbs_len (by rw[OL h4];simpa using h2)
 ·by_cases e2:o=[]
  ·subst e2;rw[show valL ([]:List Int)=0 from rfl,RX];exact limbs_len (by rw[OL h3];simpa using h1)
  ·have l1:=By.2 e1;have l2:=By.2 e2;refine limbs_len ?_;rw[OL (by omega)];have p1:=pow_mono (show m.length<=m.length+o.length-1 by omega);have p2:=pow_mono (show o.length<=m.length+o.length-1 by omega);have p3:LB^(m.length+o.length)=LB^(m.length+o.length-1)*LB:=by
    rw[<- OB];congr 1;omega
   have p4:=hpos (m.length+o.length-1);have p5:LB^(m.length+o.length-1)*2<=LB^(m.length+o.length-1)*LB:=Oe (by decide) (by omega);omega
theorem rz(s:Bool)(l:List Int):dec (s,l)=if s=true then-valL l else valL l:=rfl
theorem add_same{x y:Bool×List Int}(hx:WOK x)(hy:WOK y)(h:x.1=y.1):enc (dec (x.1,limbs (valL x.2+valL y.2).toNat))=enc (dec x+dec y):=by
 have h1:=valL_nonneg hx.1.1;have h2:=valL_nonneg hy.1.1;congr 1;rw[rz,limbs_val,OL (by omega)];unfold dec;rw[<- h];split<;>omega
theorem xJ{x y:Bool×List Int}(h:¬x.1=y.1){v:List Int}(hv:valL v=valL x.2-valL y.2):enc (dec (x.1,v))=enc (dec x+dec y):=by
 congr 1;rw[rz,hv];unfold dec;cases h1:x.1<;>cases h2:y.1<;>simp[h1,h2] at h ⊢<;>omega
theorem minus_val{m o:List Int}(hm:Cano m)(ho:Cano o)(hle:valL o<=valL m):valL (padL (valL m-valL o).toNat m.length)=valL m-valL o:=by
 have h1:=valL_lt hm.1;have h2:=valL_nonneg ho.1;rw[padL_val _ _ (by rw[OL (by omega)];omega),OL (by omega)]
theorem I6{x:Bool×List Int}(h:WOK x):(enc (-dec x)).2.length=x.2.length:=by
 have:enc (-dec x)=((!x.1)&&decide (0<valL x.2),x.2):=by
  have h1:=uw (s:= !x.1) h.1.1;rw[BD] at h1;rw[show dec x=dec (x.1,x.2) from rfl,<- h1];congr 1;exact(h.1.limbs (by have:=valL_nonneg h.1.1;omega)).symm
 rw[this]
theorem nq{a b:Int}:bq a b<0↔a<b:=by
 unfold bq;by_cases h1:a<b;·rw[if_pos h1];exact⟨fun _=>h1,fun _=>by omega⟩
 ·rw[if_neg h1];by_cases h2:b<a;·rw[if_pos h2];exact⟨fun h=>by omega,fun h=>by omega⟩
  ·rw[if_neg h2];exact⟨fun h=>by omega,fun h=>by omega⟩
theorem cmp_lens{m o:List Int}(hm:Cano m)(ho:Cano o)(h:bq (m.length:Int) (o.length:Int)≠0):bq (m.length:Int) (o.length:Int)=bq (valL m) (valL o):=by
 unfold bq at h ⊢;by_cases h1:m.length<o.length;·have:=cmp_len hm ho h1;rw[if_pos (by omega),if_pos this]
 ·by_cases h2:o.length<m.length
  ·have:=cmp_len ho hm h2;rw[if_neg (by omega),if_pos (by omega),if_neg (by omega),if_pos this]
  ·rw[if_neg (by omega),if_neg (by omega)] at h;exact absurd rfl h
theorem cmp_place{m o:List Int}(hm:Cano m)(ho:Cano o)(hl:m.length=o.length){k:Nat}(hk:k<m.length)(hd:m.drop (k+1)=o.drop (k+1))(h:bq (m.getD k 0) (o.getD k 0)≠0):bq (m.getD k 0) (o.getD k 0)=bq (valL m) (valL o):=by
 unfold bq at h ⊢;by_cases h1:m.getD k 0<o.getD k 0;·have:=cmp_at hm.1 ho.1 hl hk hd h1;rw[if_pos h1,if_pos this]
 ·by_cases h2:o.getD k 0<m.getD k 0
  ·have:=cmp_at ho.1 hm.1 hl.symm (by omega) hd.symm h2;rw[if_neg h1,if_pos h2,if_neg (by omega),if_pos this]
  ·rw[if_neg h1,if_neg h2] at h;exact absurd rfl h
theorem drop_step{m o:List Int}{k:Nat}(hl:m.length=o.length)(hk:k<m.length)(hd:m.drop (k+1)=o.drop (k+1))(h:m.getD k 0=o.getD k 0):m.drop k=o.drop k:=by
 rw[O0 hk,O0 (show k<o.length by omega),hd];rw[sh,sh,AI hk,AI (show k<o.length by omega)] at h;simp at h;rw[h]
theorem set_val:∀{l:List Int} {j:Nat} {v:Int},j<l.length->valL (l.set j v)=valL l+LB^j*(v-l.getD j 0)
 |x::r,0,v,_=>by simp[valL];omega
 |x::r,j+1,v,h=>by
  have ih:=set_val (l:=r) (j:=j) (v:=v) (by simpa using h);simp only[Ql,valL,ih,Rg,OB];rw[OH,OP (LB^j) LB,Ow];omega
 | [],_,_,h=>by simp at h
theorem set_lim{l:List Int}{j:Nat}{v:Int}(h:Lim l)(h0:0<=v)(h1:v<LB):Lim (l.set j v):=fun x hx=>by
 rcases R4 hx with h2|rfl;·exact h x h2
 ·exact⟨h0,h1⟩
theorem getD_set_ne{l:List Int}{j k:Nat}{v:Int}(h:j≠k):(l.set j v).getD k 0=l.getD k 0:=by
 rw[sh,sh,TG h]
theorem mul_bound{x y a c:Int}(hx:0<=x/\x<LB)(hy:0<=y/\y<LB)(ha:0<=a/\a<LB)(hc:0<=c/\c<LB):0<=x*y/\x*y+a+c<LB*LB/\x*y<=LB*LB:=by
 have h1:0<=x*y:=Pz hx.1 hy.1;have h2:x*y<=(LB-1)*(LB-1):=Int.mul_le_mul (by omega) (by omega) hy.1 (by decide);have hB:LB=1000000000:=rfl;have h3:(LB-1)*(LB-1)=999999998000000001:=rfl;have h4:LB*LB=1000000000000000000:=rfl;omega
theorem mul_step{x y out:List Int}{i k:Nat}{c p n:Int}(hx:Lim x)(hy:Lim y)(h1:out.length=x.length+y.length)(h2:Lim out)(h3:0<=c)(h4:c<LB)(hi:i<x.length)(hk:k<y.length)
  (h6:valL out+LB^(i+k)*c=p+LB^i*(x.getD i 0*valL (y.take k))) (hz:∀j,i+y.length<=j->out.getD j 0=0) (hn:n=x.getD i 0*y.getD k 0+out.getD (i+k) 0+c):
  0<=n/\n<LB*LB/\(out.set (i+k) (n%LB)).length=x.length+y.length/\Lim (out.set (i+k) (n%LB))/\0<=n/LB/\n/LB<LB/\
   valL (out.set (i+k) (n%LB))+LB^(i+(k+1))*(n/LB)=p+LB^i*(x.getD i 0*valL (y.take (k+1)))/\∀j,i+y.length<=j->(out.set (i+k) (n%LB)).getD j 0=0:=by
 have hb:=mul_bound (hx.getD i) (hy.getD k) (h2.getD (i+k)) ⟨h3,h4⟩;have ha:=h2.getD (i+k);have hB:LB=1000000000:=rfl;have hn0:0<=n:=by omega
 have hn1:n<LB*LB:=by omega
 have hm:0<=n%LB/\n%LB<LB:=⟨Pk _ (by decide),Pe _ (by decide)⟩;refine⟨hn0,hn1,by simp[h1],set_lim h2 hm.1 hm.2,PF hn0 (by decide),Pg (by decide) hn1,?_,fun j hj=>?_⟩
 ·rw[set_val (by omega),take_val,<- QX,OB];have e1:n%LB+LB*(n/LB)=n:=Pt n LB;have e2:LB^(i+k)*(n%LB-out.getD (i+k) 0)+LB^(i+k)*LB*(n/LB)=LB^(i+k)*(n-out.getD (i+k) 0):=by
   rw[Ow,<- OH];congr 1;omega
  have e3:n-out.getD (i+k) 0=x.getD i 0*y.getD k 0+c:=by omega
  have e4:LB^(i+k)=LB^i*LB^k:=RK ..;have e5:LB^i*(x.getD i 0*(valL (y.take k)+LB^k*y.getD k 0))=LB^i*(x.getD i 0*valL (y.take k))+LB^(i+k)*(x.getD i 0*y.getD k 0):=by
   rw[OH,OH,e4];congr 1;rw[Ow,S7 (x.getD i 0)]
  rw[e3,OH] at e2;omega
 ·rw[getD_set_ne (by omega)];exact hz j hj
theorem mul_row{x y out:List Int}{i:Nat}{c p:Int}(h1:out.length=x.length+y.length)(h2:Lim out)(h3:0<=c)(h4:c<LB)(hi:i<x.length)(hp:p=valL (x.take i)*valL y)
  (h6:valL out+LB^(i+y.length)*c=p+LB^i*(x.getD i 0*valL y)) (hz:∀j,i+y.length<=j->out.getD j 0=0):
  (out.set (i+y.length) c).length=x.length+y.length/\Lim (out.set (i+y.length) c)/\valL (out.set (i+y.length) c)=valL (x.take (i+1))*valL y/\∀j,i+1+y.length<=j->(out.set (i+y.length) c).getD j 0=0:=by
 refine⟨by simp[h1],set_lim h2 h3 h4,?_,fun j hj=>?_⟩;·rw[set_val (by omega),hz _ (Oa _),take_val,Qn,Int.sub_zero,h6,hp,Ow]
 ·rw[getD_set_ne (by omega)];exact hz j (by omega)
theorem replicate_zero(n:Nat):Lim (N6 n 0)/\valL (N6 n 0)=0/\∀j,(N6 n (0:Int)).getD j 0=0:=by
 refine⟨fun x hx=>?_,?_,fun j=>?_⟩;·have:=R9 hx;subst this;exact⟨by decide,by decide⟩
 ·induction n with
  |zero=>rfl
  |succ n ih=>rw[Qd,valL,ih];rfl
 ·rw[sh,Qo];split<;>rfl
theorem I7{x y:Bool×List Int}{out:List Int}(h:valL out=valL x.2*valL y.2):dec (x.1 !=y.1,out)=dec x*dec y:=by
 rw[rz,h];unfold dec;cases x.1<;>cases y.1<;>simp[TH,Rr]
theorem ML{x y a c:Int}(hx:0<=x/\x<LB)(hy:0<=y/\y<LB)(ha:0<=a/\a<LB)(hc:0<=c/\c<LB):
  N2.wrap (N2.wrap (N2.wrap (N2.wrap x*N2.wrap y)+N2.wrap a)+c)=x*y+a+c:=by
 have hb:=mul_bound hx hy ha hc;have hB:LB=1000000000:=rfl;have h4:LB*LB=1000000000000000000:=rfl;rw[w64 hx.1 (by omega),w64 hy.1 (by omega),w64 ha.1 (by omega),w64 hb.1 (by omega),w64 (x:=x*y+a) (by omega) (by omega),w64 (by omega) (by omega)]
theorem ov{n:Int}(h0:0<=n)(h1:n<LB*LB):N2.wrap n=n/\OG.wrap (n.tmod 1000000000)=n%LB/\N2.wrap (n.tdiv 1000000000)=n/LB:=by
 have hB:LB=1000000000:=rfl;obtain⟨e1,e2⟩:=tdiv_nn h0;rw[e1,e2];have h2:0<=n%LB/\n%LB<LB:=⟨Pk _ (by decide),Pe _ (by decide)⟩;have h3:0<=n/LB:=PF h0 (by decide);have h4:n/LB<LB:=Pg (by decide) h1;rw[hB] at h1;exact⟨w64 h0 (by omega),w32 h2.1 (by omega),w64 h3 (by omega)⟩
end Go.Cm
end
section
namespace Go.Cm
open Go.Lib
def fl(s:Bool)(xs:List Int):Nat->List UInt8
 |0=>if s=true then [45] else []
 |k+1=>fl s xs k++((if k=0 then [] else N6 (9-(itoa (xs.getD (xs.length-1-k) 0)).length) 48)++itoa (xs.getD (xs.length-1-k) 0))
theorem jW{u k:Nat}(h:u<10^k)(hk:0<k):(decDigits u).length<=k:=by
 induction k generalizing u with
 |zero=>omega
 |succ k ih=>
  rw[decDigits];split;·simp
  ·(rename_i h10;by_cases h0:k=0;·subst h0;omega);·have:=ih (u:=u/10) (by rw[Rw] at h;omega) (by omega);simp;omega
theorem p6{x:Int}(h0:0<=x)(h1:x<LB):1<=(itoa x).length/\(itoa x).length<=9:=by
 have hB:LB=1000000000:=rfl;unfold itoa;rw[if_neg (by omega)];refine⟨?_,jW (k:=9) (by omega) (by omega)⟩;rw[decDigits];split<;>simp
theorem ox{s:Bool}{xs:List Int}(h:Lim xs):∀k,(fl s xs k).length<=1+9*k
 |0=>by unfold fl;split<;>simp
 |k+1=>by
  have:=ox (s:=s) h k;have h2:=h.getD (xs.length-1-k);have h3:=p6 h2.1 h2.2;rw[fl];split<;>simp only[Ol,PU,OO]<;>omega
end Go.Cm
end
section
namespace Go.Proofs
open Go.Shelf
def Tryz.lays166_ren:Go.Shelf.Ren:=⟨fun|166=>102|240=>157|276=>193|n=>n,fun|37=>67|70=>139|72=>141|75=>143|80=>89|164=>228|n=>n,fun|n=>n⟩
theorem Tryz.lays166:Go.Proofs.Lays.n166 Tryz.prog Tryz.lays166_ren:={
 mixed:=by kernel_rfl
 f166:=Tryz.func102.trans (congrArg some (by kernel_rfl))
 f240:=Tryz.func157.trans (congrArg some (by kernel_rfl))
 f276:=Tryz.func193.trans (congrArg some (by kernel_rfl))
 t0:=Tryz.underlying0
 a0:=Tryz.isAgg0
 z0:=Tryz.sizeOf0
 v0:=Tryz.zeroValue0
 t3:=Tryz.underlying3
 a3:=Tryz.isAgg3
 z3:=Tryz.sizeOf3
 v3:=Tryz.zeroValue3
 t4:=Tryz.underlying4
 a4:=Tryz.isAgg4
 z4:=Tryz.sizeOf4
 v4:=Tryz.zeroValue4
 t9:=Tryz.underlying9
 a9:=Tryz.isAgg9
 z9:=Tryz.sizeOf9
 v9:=Tryz.zeroValue9
 t20:=Tryz.underlying20
 a20:=Tryz.isAgg20
 z20:=Tryz.sizeOf20
 v20:=Tryz.zeroValue20
 t37:=Tryz.underlying67
 a37:=Tryz.isAgg67
 z37:=Tryz.sizeOf67
 v37:=Tryz.zeroValue67
 t70:=Tryz.underlying139
 a70:=Tryz.isAgg139
 z70:=Tryz.sizeOf139
 v70:=Tryz.zeroValue139
 t72:=Tryz.underlying141
 a72:=Tryz.isAgg141
 z72:=Tryz.sizeOf141
 v72:=Tryz.zeroValue141
 t75:=Tryz.underlying143
 a75:=Tryz.isAgg143
 z75:=Tryz.sizeOf143
 v75:=Tryz.zeroValue143
 t164:=Tryz.underlying228
 a164:=Tryz.isAgg228
 z164:=Tryz.sizeOf228
 v164:=Tryz.zeroValue228}
theorem Tryz.Builder_Extra_166:Builder.Extra Tryz.prog Tryz.lays166_ren:={
 sizeBuilder:=by kernel_rfl
 liesBuilder:=by kernel_rfl
 t5:=Tryz.underlying5
 a5:=Tryz.isAgg5
 z5:=Tryz.sizeOf5
 v5:=Tryz.zeroValue5
 infoByte:=by kernel_rfl
 cellsByte:=by kernel_rfl
 sizeByte:=by kernel_rfl
 neB5:=by decide}
def Tryz.lays167_ren:Go.Shelf.Ren:=⟨fun|167=>101|240=>157|276=>193|n=>n,fun|37=>67|70=>139|72=>141|75=>143|80=>89|164=>228|n=>n,fun|n=>n⟩
theorem Tryz.lays167:Go.Proofs.Lays.n167 Tryz.prog Tryz.lays167_ren:={
 mixed:=by kernel_rfl
 f167:=Tryz.func101.trans (congrArg some (by kernel_rfl))
 f240:=Tryz.func157.trans (congrArg some (by kernel_rfl))
 f276:=Tryz.func193.trans (congrArg some (by kernel_rfl))
 t0:=Tryz.underlying0
 a0:=Tryz.isAgg0
 z0:=Tryz.sizeOf0
 v0:=Tryz.zeroValue0
 t4:=Tryz.underlying4
 a4:=Tryz.isAgg4
 z4:=Tryz.sizeOf4
 v4:=Tryz.zeroValue4
 t5:=Tryz.underlying5
 a5:=Tryz.isAgg5
 z5:=Tryz.sizeOf5
 v5:=Tryz.zeroValue5
 t9:=Tryz.underlying9
 a9:=Tryz.isAgg9
 z9:=Tryz.sizeOf9
 v9:=Tryz.zeroValue9
 t20:=Tryz.underlying20
 a20:=Tryz.isAgg20
 z20:=Tryz.sizeOf20
 v20:=Tryz.zeroValue20
 t37:=Tryz.underlying67
 a37:=Tryz.isAgg67
 z37:=Tryz.sizeOf67
 v37:=Tryz.zeroValue67
 t70:=Tryz.underlying139
 a70:=Tryz.isAgg139
 z70:=Tryz.sizeOf139
 v70:=Tryz.zeroValue139
 t72:=Tryz.underlying141
 a72:=Tryz.isAgg141
 z72:=Tryz.sizeOf141
 v72:=Tryz.zeroValue141
 t75:=Tryz.underlying143
 a75:=Tryz.isAgg143
 z75:=Tryz.sizeOf143
 v75:=Tryz.zeroValue143
 t164:=Tryz.underlying228
 a164:=Tryz.isAgg228
 z164:=Tryz.sizeOf228
 v164:=Tryz.zeroValue228}
theorem Tryz.Builder_Extra_167:Builder.Extra Tryz.prog Tryz.lays167_ren:={
 sizeBuilder:=by kernel_rfl
 liesBuilder:=by kernel_rfl
 t5:=Tryz.underlying5
 a5:=Tryz.isAgg5
 z5:=Tryz.sizeOf5
 v5:=Tryz.zeroValue5
 infoByte:=by kernel_rfl
 cellsByte:=by kernel_rfl
 sizeByte:=by kernel_rfl
 neB5:=by decide}
def Tryz.lays169_ren:Go.Shelf.Ren:=⟨fun|169=>103|n=>n,fun|37=>67|70=>139|72=>141|127=>197|n=>n,fun|n=>n⟩
theorem Tryz.lays169:Go.Proofs.Lays.n169 Tryz.prog Tryz.lays169_ren:={
 mixed:=by kernel_rfl
 f169:=Tryz.func103.trans (congrArg some (by kernel_rfl))
 t0:=Tryz.underlying0
 a0:=Tryz.isAgg0
 z0:=Tryz.sizeOf0
 v0:=Tryz.zeroValue0
 t3:=Tryz.underlying3
 a3:=Tryz.isAgg3
 z3:=Tryz.sizeOf3
 v3:=Tryz.zeroValue3
 t9:=Tryz.underlying9
 a9:=Tryz.isAgg9
 z9:=Tryz.sizeOf9
 v9:=Tryz.zeroValue9
 t37:=Tryz.underlying67
 a37:=Tryz.isAgg67
 z37:=Tryz.sizeOf67
 v37:=Tryz.zeroValue67
 t70:=Tryz.underlying139
 a70:=Tryz.isAgg139
 z70:=Tryz.sizeOf139
 v70:=Tryz.zeroValue139
 t72:=Tryz.underlying141
 a72:=Tryz.isAgg141
 z72:=Tryz.sizeOf141
 v72:=Tryz.zeroValue141
 t127:=Tryz.underlying197
 a127:=Tryz.isAgg197
 z127:=Tryz.sizeOf197
 v127:=Tryz.zeroValue197}
theorem Tryz.Builder_Extra_169:Builder.Extra Tryz.prog Tryz.lays169_ren:={
 sizeBuilder:=by kernel_rfl
 liesBuilder:=by kernel_rfl
 t5:=Tryz.underlying5
 a5:=Tryz.isAgg5
 z5:=Tryz.sizeOf5
 v5:=Tryz.zeroValue5
 infoByte:=by kernel_rfl
 cellsByte:=by kernel_rfl
 sizeByte:=by kernel_rfl
 neB5:=by decide}
def Tryz.laysM171_ren:Go.Shelf.Ren:=⟨fun|129=>225|171=>100|243=>156|246=>192|283=>207|284=>208|285=>209|286=>210|317=>224|318=>226|319=>227|320=>228|337=>234|338=>235|n=>n,fun|37=>67|46=>210|51=>138|53=>190|171=>242|173=>245|212=>257|213=>258|232=>270|233=>271|n=>n,fun|17=>3|18=>6|19=>7|n=>n⟩
theorem Tryz.laysM171:Go.Proofs.LaysM.n171 Tryz.prog Tryz.laysM171_ren:={
 mixed:=by kernel_rfl
 f129:=Tryz.func225.trans (congrArg some (by kernel_rfl))
 f171:=Tryz.func100.trans (congrArg some (by kernel_rfl))
 f243:=Tryz.func156.trans (congrArg some (by kernel_rfl))
 f246:=Tryz.func192.trans (congrArg some (by kernel_rfl))
 f283:=Tryz.func207.trans (congrArg some (by kernel_rfl))
 f284:=Tryz.func208.trans (congrArg some (by kernel_rfl))
 f285:=Tryz.func209.trans (congrArg some (by kernel_rfl))
 f286:=Tryz.func210.trans (congrArg some (by kernel_rfl))
 f317:=Tryz.func224.trans (congrArg some (by kernel_rfl))
 f318:=Tryz.func226.trans (congrArg some (by kernel_rfl))
 f319:=Tryz.func227.trans (congrArg some (by kernel_rfl))
 f320:=Tryz.func228.trans (congrArg some (by kernel_rfl))
 f337:=Tryz.func234.trans (congrArg some (by kernel_rfl))
 f338:=Tryz.func235.trans (congrArg some (by kernel_rfl))
 t0:=Tryz.underlying0
 a0:=Tryz.isAgg0
 z0:=Tryz.sizeOf0
 v0:=Tryz.zeroValue0
 t2:=Tryz.underlying2
 a2:=Tryz.isAgg2
 z2:=Tryz.sizeOf2
 v2:=Tryz.zeroValue2
 t3:=Tryz.underlying3
 a3:=Tryz.isAgg3
 z3:=Tryz.sizeOf3
 v3:=Tryz.zeroValue3
 t4:=Tryz.underlying4
 a4:=Tryz.isAgg4
 z4:=Tryz.sizeOf4
 v4:=Tryz.zeroValue4
 t5:=Tryz.underlying5
 a5:=Tryz.isAgg5
 z5:=Tryz.sizeOf5
 v5:=Tryz.zeroValue5
 t9:=Tryz.underlying9
 a9:=Tryz.isAgg9
 z9:=Tryz.sizeOf9
 v9:=Tryz.zeroValue9
 t20:=Tryz.underlying20
 a20:=Tryz.isAgg20
 z20:=Tryz.sizeOf20
 v20:=Tryz.zeroValue20
 t37:=Tryz.underlying67
 a37:=Tryz.isAgg67
 z37:=Tryz.sizeOf67
 v37:=Tryz.zeroValue67
 t46:=Tryz.underlying210
 a46:=Tryz.isAgg210
 z46:=Tryz.sizeOf210
 v46:=Tryz.zeroValue210
 t51:=Tryz.underlying138
 a51:=Tryz.isAgg138
 z51:=Tryz.sizeOf138
 v51:=Tryz.zeroValue138
 t53:=Tryz.underlying190
 a53:=Tryz.isAgg190
 z53:=Tryz.sizeOf190
 v53:=Tryz.zeroValue190
 t171:=Tryz.underlying242
 a171:=Tryz.isAgg242
 z171:=Tryz.sizeOf242
 v171:=Tryz.zeroValue242
 t173:=Tryz.underlying245
 a173:=Tryz.isAgg245
 z173:=Tryz.sizeOf245
 v173:=Tryz.zeroValue245
 t212:=Tryz.underlying257
 a212:=Tryz.isAgg257
 z212:=Tryz.sizeOf257
 v212:=Tryz.zeroValue257
 t213:=Tryz.underlying258
 a213:=Tryz.isAgg258
 z213:=Tryz.sizeOf258
 t232:=Tryz.underlying270
 a232:=Tryz.isAgg270
 z232:=Tryz.sizeOf270
 v232:=Tryz.zeroValue270
 t233:=Tryz.underlying271
 a233:=Tryz.isAgg271
 z233:=Tryz.sizeOf271
 v233:=Tryz.zeroValue271
 g17:=by kernel_rfl
 g18:=by kernel_rfl
 g19:=by kernel_rfl
 i0:=by kernel_rfl
 i2:=by kernel_rfl
 i3:=by kernel_rfl
 i4:=by kernel_rfl
 i5:=by kernel_rfl
 i9:=by kernel_rfl
 i20:=by kernel_rfl
 i37:=by kernel_rfl
 i46:=by kernel_rfl
 i51:=by kernel_rfl
 i53:=by kernel_rfl
 i171:=by kernel_rfl
 i173:=by kernel_rfl
 i212:=by kernel_rfl
 i232:=by kernel_rfl
 i233:=by kernel_rfl
 m17:=by kernel_rfl
 m18:=by kernel_rfl
 m19:=by kernel_rfl}
open Go.RowKit Go.Sort Go.Lib in
theorem Tryz.strconv_Itoa(n:Int)(h0: -9223372036854775808<=n)(h1:n<=9223372036854775807)(w:World)(htab:TN Tryz.prog w "internal/strconv.uint64pow10" .u64 SP):
  Calls Tryz.prog 100 #[.int .i64 n] w fun e w'=>e= .returned (.string ⟨(ON n).toArray⟩)/\∃k os,w'=grow (w.drewN k) os:=Any.strconv_Itoa Tryz.laysM171 n h0 h1 w htab
def Tryz.laysPu14_ren:Go.Shelf.Ren:=⟨fun|14=>176|16=>201|17=>202|19=>213|20=>214|21=>215|22=>216|23=>217|24=>218|25=>230|26=>231|27=>100|28=>156|29=>192|30=>207|31=>208|32=>209|33=>210|34=>224|35=>225|36=>226|37=>227|38=>228|39=>234|40=>235|n=>n,fun|22=>190|24=>143|25=>213|34=>248|36=>210|37=>67|39=>250|44=>263|47=>197|48=>267|50=>269|52=>242|55=>245|59=>257|60=>138|61=>258|65=>270|66=>271|67=>89|n=>n,fun|0=>4|1=>5|2=>3|3=>6|4=>7|n=>n⟩
theorem Tryz.laysPu14:Go.Proofs.LaysPu.n14 Tryz.prog Tryz.laysPu14_ren:={
 mixed:=by kernel_rfl
 f14:=Tryz.func176.trans (congrArg some (by kernel_rfl))
 f16:=Tryz.func201.trans (congrArg some (by kernel_rfl))
 f17:=Tryz.func202.trans (congrArg some (by kernel_rfl))
 f19:=Tryz.func213.trans (congrArg some (by kernel_rfl))
 f20:=Tryz.func214.trans (congrArg some (by kernel_rfl))
 f21:=Tryz.func215.trans (congrArg some (by kernel_rfl))
 f22:=Tryz.func216.trans (congrArg some (by kernel_rfl))
 f23:=Tryz.func217.trans (congrArg some (by kernel_rfl))
 f24:=Tryz.func218.trans (congrArg some (by kernel_rfl))
 f25:=Tryz.func230.trans (congrArg some (by kernel_rfl))
 f26:=Tryz.func231.trans (congrArg some (by kernel_rfl))
 f27:=Tryz.func100.trans (congrArg some (by kernel_rfl))
 f28:=Tryz.func156.trans (congrArg some (by kernel_rfl))
 f29:=Tryz.func192.trans (congrArg some (by kernel_rfl))
 f30:=Tryz.func207.trans (congrArg some (by kernel_rfl))
 f31:=Tryz.func208.trans (congrArg some (by kernel_rfl))
 f32:=Tryz.func209.trans (congrArg some (by kernel_rfl))
 f33:=Tryz.func210.trans (congrArg some (by kernel_rfl))
 f34:=Tryz.func224.trans (congrArg some (by kernel_rfl))
 f35:=Tryz.func225.trans (congrArg some (by kernel_rfl))
 f36:=Tryz.func226.trans (congrArg some (by kernel_rfl))
 f37:=Tryz.func227.trans (congrArg some (by kernel_rfl))
 f38:=Tryz.func228.trans (congrArg some (by kernel_rfl))
 f39:=Tryz.func234.trans (congrArg some (by kernel_rfl))
 f40:=Tryz.func235.trans (congrArg some (by kernel_rfl))
 t0:=Tryz.underlying0
 a0:=Tryz.isAgg0
 z0:=Tryz.sizeOf0
 v0:=Tryz.zeroValue0
 i0:=by kernel_rfl
 t2:=Tryz.underlying2
 a2:=Tryz.isAgg2
 z2:=Tryz.sizeOf2
 v2:=Tryz.zeroValue2
 i2:=by kernel_rfl
 t3:=Tryz.underlying3
 a3:=Tryz.isAgg3
 z3:=Tryz.sizeOf3
 v3:=Tryz.zeroValue3
 i3:=by kernel_rfl
 t4:=Tryz.underlying4
 a4:=Tryz.isAgg4
 z4:=Tryz.sizeOf4
 v4:=Tryz.zeroValue4
 i4:=by kernel_rfl
 t5:=Tryz.underlying5
 a5:=Tryz.isAgg5
 z5:=Tryz.sizeOf5
 v5:=Tryz.zeroValue5
 i5:=by kernel_rfl
 t9:=Tryz.underlying9
 a9:=Tryz.isAgg9
 z9:=Tryz.sizeOf9
 v9:=Tryz.zeroValue9
 i9:=by kernel_rfl
 t20:=Tryz.underlying20
 a20:=Tryz.isAgg20
 z20:=Tryz.sizeOf20
 v20:=Tryz.zeroValue20
 i20:=by kernel_rfl
 t21:=Tryz.underlying21
 a21:=Tryz.isAgg21
 z21:=Tryz.sizeOf21
 v21:=Tryz.zeroValue21
 i21:=by kernel_rfl
 t22:=Tryz.underlying190
 a22:=Tryz.isAgg190
 z22:=Tryz.sizeOf190
 v22:=Tryz.zeroValue190
 i22:=by kernel_rfl
 t24:=Tryz.underlying143
 a24:=Tryz.isAgg143
 z24:=Tryz.sizeOf143
 v24:=Tryz.zeroValue143
 i24:=by kernel_rfl
 t25:=Tryz.underlying213
 a25:=Tryz.isAgg213
 z25:=Tryz.sizeOf213
 v25:=Tryz.zeroValue213
 i25:=by kernel_rfl
 t34:=Tryz.underlying248
 a34:=Tryz.isAgg248
 z34:=Tryz.sizeOf248
 v34:=Tryz.zeroValue248
 i34:=by kernel_rfl
 c34:=by kernel_rfl
 t36:=Tryz.underlying210
 a36:=Tryz.isAgg210
 z36:=Tryz.sizeOf210
 v36:=Tryz.zeroValue210
 i36:=by kernel_rfl
 t37:=Tryz.underlying67
 a37:=Tryz.isAgg67
 z37:=Tryz.sizeOf67
 v37:=Tryz.zeroValue67
 i37:=by kernel_rfl
 t39:=Tryz.underlying250
 a39:=Tryz.isAgg250
 z39:=Tryz.sizeOf250
 v39:=Tryz.zeroValue250
 i39:=by kernel_rfl
 t44:=Tryz.underlying263
 a44:=Tryz.isAgg263
 z44:=Tryz.sizeOf263
 v44:=Tryz.zeroValue263
 i44:=by kernel_rfl
 t47:=Tryz.underlying197
 a47:=Tryz.isAgg197
 z47:=Tryz.sizeOf197
 v47:=Tryz.zeroValue197
 i47:=by kernel_rfl
 t48:=Tryz.underlying267
 a48:=Tryz.isAgg267
 z48:=Tryz.sizeOf267
 v48:=Tryz.zeroValue267
 i48:=by kernel_rfl
 t50:=Tryz.underlying269
 a50:=Tryz.isAgg269
 z50:=Tryz.sizeOf269
 v50:=Tryz.zeroValue269
 i50:=by kernel_rfl
 t52:=Tryz.underlying242
 a52:=Tryz.isAgg242
 z52:=Tryz.sizeOf242
 v52:=Tryz.zeroValue242
 i52:=by kernel_rfl
 t55:=Tryz.underlying245
 a55:=Tryz.isAgg245
 z55:=Tryz.sizeOf245
 v55:=Tryz.zeroValue245
 i55:=by kernel_rfl
 t59:=Tryz.underlying257
 a59:=Tryz.isAgg257
 z59:=Tryz.sizeOf257
 v59:=Tryz.zeroValue257
 i59:=by kernel_rfl
 t60:=Tryz.underlying138
 a60:=Tryz.isAgg138
 z60:=Tryz.sizeOf138
 v60:=Tryz.zeroValue138
 i60:=by kernel_rfl
 t61:=Tryz.underlying258
 a61:=Tryz.isAgg258
 z61:=Tryz.sizeOf258
 t65:=Tryz.underlying270
 a65:=Tryz.isAgg270
 z65:=Tryz.sizeOf270
 v65:=Tryz.zeroValue270
 i65:=by kernel_rfl
 t66:=Tryz.underlying271
 a66:=Tryz.isAgg271
 z66:=Tryz.sizeOf271
 v66:=Tryz.zeroValue271
 i66:=by kernel_rfl
 t67:=Tryz.underlying89
 a67:=Tryz.isAgg89
 z67:=Tryz.sizeOf89
 v67:=Tryz.zeroValue89
 i67:=by kernel_rfl
 g0:=by kernel_rfl
 m0:=by kernel_rfl
 g1:=by kernel_rfl
 m1:=by kernel_rfl
 g2:=by kernel_rfl
 m2:=by kernel_rfl
 g3:=by kernel_rfl
 m3:=by kernel_rfl
 g4:=by kernel_rfl
 m4:=by kernel_rfl}
open Go.RowKit in
theorem Tryz.strconv_ParseUint_10_at32_ok(s:ByteArray)(hmax:s.size<=9223372036854775806)(u:Nat)(h:TI 32 s.data.toList= .ok u)(w:World):
  Calls Tryz.prog 176 #[.string s,.int .i64 10,.int .i64 32] w fun e w'=>e= .returned (.tuple #[.int .u64 u,.nilIface])/\(w'=w∨w'=Lib.bytesWorld w 5 s):=Any.strconv_ParseUint_10_at32_ok Tryz.laysPu14 s hmax u h w
end Go.Proofs
end
section
namespace Go.Proofs
open Go.RowKit Go.Cm Go.Sort
theorem nr{T e:TypeId}{B b:Nat}{bs:List Value}{w w':World}(h:Ta T e B b bs w)(hg:w.grownBy w' none):Ta T e B b bs w':=by
 have key:∀p,Lib.BuilderAt T e B b p bs w->Lib.BuilderAt T e B b p bs w':=by
  rintro p ⟨h1,v,h2,h3,h4⟩;exact⟨h1,v,(hg.block b (Array.getElem?_eq_some_iff.1 h2).1 (by simp)).trans h2,h3.kept hg (by cases v.ownBlock<;>simp),h4⟩
 exact h.imp (key _) (key _)
theorem Gb{n:Nat}(h:n<=9):(⟨#[48,48,48,48,48,48,48,48,48]⟩:ByteArray).extract n 9=⟨(N6 (9-n) (48:UInt8)).toArray⟩:=by
 have:∀n:Fin 10,(⟨#[48,48,48,48,48,48,48,48,48]⟩:ByteArray).extract n.1 9=⟨(N6 (9-n.1) (48:UInt8)).toArray⟩:=by decide
 exact this ⟨n,by omega⟩
theorem ja(B:Nat)(w:World)(hB:B<=w.heap.size)(k:Nat)(os:Array Obj):Below B w (grow (w.drewN k) os):=by
 refine⟨rfl,rfl,rfl,?_,fun i hi=>?_⟩;·show w.heap.size<=(w.heap++os).size;simp
 ·show (w.heap++os)[i]? =w.heap[i]?;rw[Array.getElem?_append_left (by omega)]
theorem rA(w:World)(k:Nat)(os:Array Obj):w.grownBy (grow (w.drewN k) os) none:=by
 have:=ja w.heap.size w (Oa _) k os;exact⟨this.os,this.tape,this.output,this.size,fun i hi _=>this.block i hi⟩
set_option maxRecDepth 100000 in
set_option maxHeartbeats 1000000 in
theorem D6(s:Bool)(xs:List Int)(b o cap:Nat)(w:World)(hne:0<xs.length)(hl:Lim xs)(hlen:xs.length<=1000000000000)(hb:b<w.heap.size)(hc:∀j,j<xs.length->w.cell? ⟨b,o+j,none⟩=some (.int .u32 (xs.getD j 0)))
  (hT:∀W,Below w.heap.size w W->TN Tryz.prog W "internal/strconv.uint64pow10" .u64 SP):
  Calls Tryz.prog 45 #[.agg #[.bool s,.slice (some ⟨b,o,none⟩) xs.length cap]] w fun e w'=>e= .returned (.string ⟨(fl s xs xs.length).toArray⟩)/\Below w.heap.size w w':=by
 have h0:((xs.length:Int)==0)=false:=beq_eq_false_iff_ne.2 (by omega);obtain⟨W0,hW0⟩:∃W0,W0=w.alloc (.cells #[.bool s,.slice (some ⟨b,o,none⟩) xs.length cap] 80):=⟨_,rfl⟩;cases s
 ·go_enter Tryz.func45,Tryz.ntmps45
  go_wp2_with fail
  go_loopw [4] (fun i wr=>∃k:Nat,k<=xs.length/\i= .int .i64 ((xs.length:Int)-1-k)/\Ta 141 5 (w.heap.size+1) (w.heap.size+1) (Lib.byteCells (fl false xs k)) wr/\Below (w.heap.size+1) W0 wr) (fun i _=>(intOf i+1).toNat)
  case atStart=>
   (refine⟨0,PM _,by simp,?_,?_⟩;·have:=TP 141 5 (w.alloc (.cells #[.bool false,.slice (some ⟨b,o,none⟩) xs.length cap] 80));rw[World.size_alloc] at this;exact this);·rw[hW0];exact(Below.refl _ _).alloc (by simp) _
  case round=>
   obtain⟨k,hk,rfl,hI,hbw⟩:=hrel;have hB0:Below w.heap.size w wr:=(((Below.refl _ _).alloc (Oa _) _).trans ((by rw[hW0] at hbw;exact hbw.mono (by omega))));have g0:wr.cell? ⟨w.heap.size,0,none⟩=some (.bool false):=by
    rw[hbw.cell (p:=⟨w.heap.size,0,none⟩) (by simp),hW0];exact cell_of_row _ _ 0 _ _ _ (heap_alloc_new w _)
   have g1:wr.cell? ⟨w.heap.size,1,none⟩=some (.slice (some ⟨b,o,none⟩) xs.length cap):=by
    rw[hbw.cell (p:=⟨w.heap.size,1,none⟩) (by simp),hW0];exact cell_of_row _ _ 1 _ _ _ (heap_alloc_new w _)
   by_cases hlt:k<xs.length
   ·(have hge:0<=(xs.length:Int)-1-k:=by omega);(have htn:((xs.length:Int)-1-k).toNat=xs.length-1-k:=by omega);(have hup:(xs.length:Int)-1-k<xs.length:=by omega);obtain⟨x,hx⟩:∃x,x=xs.getD (xs.length-1-k) 0:=⟨_,rfl⟩;have hc1:wr.cell? ⟨b,o+(xs.length-1-k),none⟩=some (.int .u32 x):=by
     rw[hB0.cell (p:=⟨b,o+(xs.length-1-k),none⟩) hb,hx];exact hc _ (by omega)
    have hxl:=hl.getD (xs.length-1-k);rw[<- hx] at hxl;have hB:LB=1000000000:=rfl;obtain⟨hx0,hx1⟩:=hxl;rw[hB] at hx1;have HX:=SQ hx;clear hx hB;have hil:=p6 hx0 (by rw[show LB=1000000000 from rfl];exact hx1)
    go_wp2_with fail
    refine(Tryz.strconv_Itoa x (by omega) (by omega) wr (hT wr hB0)).mono ?_;rintro e W1 ⟨rfl,q,os,hW1⟩;have hg:=rA wr q os;have hb1:=ja wr.heap.size wr (Oa _) q os;rw[<- hW1] at hg hb1;have hI1:=nr hI hg;clear hg;have hsz:w.heap.size+1<wr.heap.size:=by
     rcases hI with h|h<;>exact h.lt
    clear hI hW1;have hbw1:Below (w.heap.size+1) W0 W1:=hbw.trans (hb1.mono (by omega));have f0:W1.cell? ⟨w.heap.size,0,none⟩=some (.bool false):=(hb1.cell (p:=⟨w.heap.size,0,none⟩) (by simp only;omega)).trans g0;have f1:W1.cell? ⟨w.heap.size,1,none⟩=some (.slice (some ⟨b,o,none⟩) xs.length cap):=(hb1.cell (p:=⟨w.heap.size,1,none⟩) (by simp only;omega)).trans g1;(have hszw:w.heap.size+1<=W1.heap.size:=by have:=hb1.size;omega);have hacc:=ox (s:=false) hl k;(have hacc2:fl false xs (k+1)=fl false xs k++((if k=0 then [] else N6 (9-(ON x).length) 48)++ON x):=by rw[HX.out];rfl);have HA:=SQ hacc2;clear hacc2 HX;generalize hl1:ON x=l at*;clear hl1;obtain⟨hil1,hil2⟩:=hil;by_cases hk0:k=0
    ·have HK:=SQ hk0;(have hnl:¬((xs.length:Int)-1-k<(xs.length:Int)-1):=by omega);clear hk0
     go_wp2_with fail
     refine(Any.Builder_WriteString Tryz.lays166 Tryz.Builder_Extra_166 (w.heap.size+1) (w.heap.size+1) _ ⟨l.toArray⟩ _ hI1 (by rw[QQ];simp only[ByteArray.size,OQ];omega) hszw).mono ?_;rintro e W2 ⟨rfl,h2,b2⟩
     go_wp2
     go_roundw
     case rel=>
      refine⟨k+1,by omega,by congr 1;omega,?_,hbw1.trans b2⟩;have e:=HA.out;rw[if_pos HK.out,OY] at e;rw[e,QR];exact .inr h2
     case measure=>simp[intOf];omega
    ·(have hnl:(xs.length:Int)-1-k<(xs.length:Int)-1:=by omega);(have hl9:(l.length:Int)<=9:=by omega);have HK:=SQ hk0;clear hk0
     go_wp2_with fail
     rw[Gb hil2];refine(Any.Builder_WriteString Tryz.lays166 Tryz.Builder_Extra_166 (w.heap.size+1) (w.heap.size+1) _ ⟨(N6 (9-l.length) (48:UInt8)).toArray⟩ _ hI1 (by rw[QQ];simp only[ByteArray.size,OQ,PU];omega) hszw).mono ?_;rintro e W2 ⟨rfl,h2,b2⟩;(have hszw2:w.heap.size+1<=W2.heap.size:=by have:=b2.size;omega);clear hI1
     go_wp2_with fail
     refine(Any.Builder_WriteString Tryz.lays166 Tryz.Builder_Extra_166 (w.heap.size+1) (w.heap.size+1) _ ⟨l.toArray⟩ _ (.inr h2) (by rw[Ol,TQ,QQ];simp only[ByteArray.size,OQ,PU];omega) hszw2).mono ?_;rintro e W3 ⟨rfl,h3,b3⟩
     go_wp2
     go_roundw
     case rel=>
      refine⟨k+1,by omega,by congr 1;omega,?_,(hbw1.trans b2).trans b3⟩;have e:=HA.out;rw[if_neg HK.out,<- O4] at e;rw[e,QR,QR];exact .inr h3
     case measure=>simp[intOf];omega
   ·(have hk2:k=xs.length:=by omega);(have hnl:¬(0<=(xs.length:Int)-1-k):=by omega);have HK:=SQ hk2;clear hk2;have hszw:w.heap.size+1<=wr.heap.size:=by
     rcases hI with h|h<;>exact QN h.lt
    go_wp2_with fail
    refine(Any.Builder_String_any Tryz.lays169 Tryz.Builder_Extra_169 (w.heap.size+1) (w.heap.size+1) _ _ hI hszw).mono ?_;rintro e W2 ⟨rfl,b2⟩
    go_wp2
    go_ret
    exact⟨by rw[HK.out];rfl,hB0.trans (b2.mono (by omega))⟩
 ·go_enter Tryz.func45,Tryz.ntmps45
  go_wp2_with fail
  have hf:=TP 141 5 (w.alloc (.cells #[.bool true,.slice (some ⟨b,o,none⟩) xs.length cap] 80));rw[World.size_alloc] at hf;refine(Any.Builder_WriteByte Tryz.lays167 Tryz.Builder_Extra_167 (w.heap.size+1) (w.heap.size+1) [] 45 _ hf (by simp) (by simp)).mono ?_;rintro e W1 ⟨rfl,h1,b1⟩;have hb1:Below (w.heap.size+1) W0 W1:=by rw[hW0];exact((Below.refl _ _).alloc (by simp) _).trans b1
  have f0:W1.cell? ⟨w.heap.size,0,none⟩=some (.bool true):=by
   rw[hb1.cell (p:=⟨w.heap.size,0,none⟩) (by simp),hW0];exact cell_of_row _ _ 0 _ _ _ (heap_alloc_new w _)
  have f1:W1.cell? ⟨w.heap.size,1,none⟩=some (.slice (some ⟨b,o,none⟩) xs.length cap):=by
   rw[hb1.cell (p:=⟨w.heap.size,1,none⟩) (by simp),hW0];exact cell_of_row _ _ 1 _ _ _ (heap_alloc_new w _)
  go_wp2_with fail
  go_loopw [4] (fun i wr=>∃k:Nat,k<=xs.length/\i= .int .i64 ((xs.length:Int)-1-k)/\Ta 141 5 (w.heap.size+1) (w.heap.size+1) (Lib.byteCells (fl true xs k)) wr/\Below (w.heap.size+1) W0 wr) (fun i _=>(intOf i+1).toNat)
  case atStart=>exact⟨0,PM _,by simp,.inr h1,hb1⟩
  case round=>
   obtain⟨k,hk,rfl,hI,hbw⟩:=hrel;have hB0:Below w.heap.size w wr:=(((Below.refl _ _).alloc (Oa _) _).trans ((by rw[hW0] at hbw;exact hbw.mono (by omega))));have g0:wr.cell? ⟨w.heap.size,0,none⟩=some (.bool true):=by
    rw[hbw.cell (p:=⟨w.heap.size,0,none⟩) (by simp),hW0];exact cell_of_row _ _ 0 _ _ _ (heap_alloc_new w _)
   have g1:wr.cell? ⟨w.heap.size,1,none⟩=some (.slice (some ⟨b,o,none⟩) xs.length cap):=by
    rw[hbw.cell (p:=⟨w.heap.size,1,none⟩) (by simp),hW0];exact cell_of_row _ _ 1 _ _ _ (heap_alloc_new w _)
   by_cases hlt:k<xs.length
   ·(have hge:0<=(xs.length:Int)-1-k:=by omega);(have htn:((xs.length:Int)-1-k).toNat=xs.length-1-k:=by omega);(have hup:(xs.length:Int)-1-k<xs.length:=by omega);obtain⟨x,hx⟩:∃x,x=xs.getD (xs.length-1-k) 0:=⟨_,rfl⟩;have hc1:wr.cell? ⟨b,o+(xs.length-1-k),none⟩=some (.int .u32 x):=by
     rw[hB0.cell (p:=⟨b,o+(xs.length-1-k),none⟩) hb,hx];exact hc _ (by omega)
    have hxl:=hl.getD (xs.length-1-k);rw[<- hx] at hxl;have hB:LB=1000000000:=rfl;obtain⟨hx0,hx1⟩:=hxl;rw[hB] at hx1;have HX:=SQ hx;clear hx hB;have hil:=p6 hx0 (by rw[show LB=1000000000 from rfl];exact hx1)
    go_wp2_with fail
    refine(Tryz.strconv_Itoa x (by omega) (by omega) wr (hT wr hB0)).mono ?_;rintro e W1 ⟨rfl,q,os,hW1⟩;have hg:=rA wr q os;have hb1:=ja wr.heap.size wr (Oa _) q os;rw[<- hW1] at hg hb1;have hI1:=nr hI hg;clear hg;have hsz:w.heap.size+1<wr.heap.size:=by
     rcases hI with h|h<;>exact h.lt
    clear hI hW1;have hbw1:Below (w.heap.size+1) W0 W1:=hbw.trans (hb1.mono (by omega));have f0:W1.cell? ⟨w.heap.size,0,none⟩=some (.bool true):=(hb1.cell (p:=⟨w.heap.size,0,none⟩) (by simp only;omega)).trans g0;have f1:W1.cell? ⟨w.heap.size,1,none⟩=some (.slice (some ⟨b,o,none⟩) xs.length cap):=(hb1.cell (p:=⟨w.heap.size,1,none⟩) (by simp only;omega)).trans g1;(have hszw:w.heap.size+1<=W1.heap.size:=by have:=hb1.size;omega);have hacc:=ox (s:=true) hl k;(have hacc2:fl true xs (k+1)=fl true xs k++((if k=0 then [] else N6 (9-(ON x).length) 48)++ON x):=by rw[HX.out];rfl);have HA:=SQ hacc2;clear hacc2 HX;generalize hl1:ON x=l at*;clear hl1;obtain⟨hil1,hil2⟩:=hil;by_cases hk0:k=0
    ·have HK:=SQ hk0;(have hnl:¬((xs.length:Int)-1-k<(xs.length:Int)-1):=by omega);clear hk0
     go_wp2_with fail
     refine(Any.Builder_WriteString Tryz.lays166 Tryz.Builder_Extra_166 (w.heap.size+1) (w.heap.size+1) _ ⟨l.toArray⟩ _ hI1 (by rw[QQ];simp only[ByteArray.size,OQ];omega) hszw).mono ?_;rintro e W2 ⟨rfl,h2,b2⟩
     go_wp2
     go_roundw
     case rel=>
      refine⟨k+1,by omega,by congr 1;omega,?_,hbw1.trans b2⟩;have e:=HA.out;rw[if_pos HK.out,OY] at e;rw[e,QR];exact .inr h2
     case measure=>simp[intOf];omega
    ·(have hnl:(xs.length:Int)-1-k<(xs.length:Int)-1:=by omega);(have hl9:(l.length:Int)<=9:=by omega);have HK:=SQ hk0;clear hk0
     go_wp2_with fail
     rw[Gb hil2];refine(Any.Builder_WriteString Tryz.lays166 Tryz.Builder_Extra_166 (w.heap.size+1) (w.heap.size+1) _ ⟨(N6 (9-l.length) (48:UInt8)).toArray⟩ _ hI1 (by rw[QQ];simp only[ByteArray.size,OQ,PU];omega) hszw).mono ?_;rintro e W2 ⟨rfl,h2,b2⟩;(have hszw2:w.heap.size+1<=W2.heap.size:=by have:=b2.size;omega);clear hI1
     go_wp2_with fail
     refine(Any.Builder_WriteString Tryz.lays166 Tryz.Builder_Extra_166 (w.heap.size+1) (w.heap.size+1) _ ⟨l.toArray⟩ _ (.inr h2) (by rw[Ol,TQ,QQ];simp only[ByteArray.size,OQ,PU];omega) hszw2).mono ?_;rintro e W3 ⟨rfl,h3,b3⟩
     go_wp2
     go_roundw
     case rel=>
      refine⟨k+1,by omega,by congr 1;omega,?_,(hbw1.trans b2).trans b3⟩;have e:=HA.out;rw[if_neg HK.out,<- O4] at e;rw[e,QR,QR];exact .inr h3
     case measure=>simp[intOf];omega
   ·(have hk2:k=xs.length:=by omega);(have hnl:¬(0<=(xs.length:Int)-1-k):=by omega);have HK:=SQ hk2;clear hk2;have hszw:w.heap.size+1<=wr.heap.size:=by
     rcases hI with h|h<;>exact QN h.lt
    go_wp2_with fail
    refine(Any.Builder_String_any Tryz.lays169 Tryz.Builder_Extra_169 (w.heap.size+1) (w.heap.size+1) _ _ hI hszw).mono ?_;rintro e W2 ⟨rfl,b2⟩
    go_wp2
    go_ret
    exact⟨by rw[HK.out];rfl,hB0.trans (b2.mono (by omega))⟩
end Go.Proofs
end
section
namespace Go.Proofs
open Go.RowKit Go.Cm
def I8(B:av):Prop:=∀w,B.On w->TN Tryz.prog w "internal/strconv.uint64pow10" .u64 SP
def MM(B:av):Prop:=∀w,B.On w->∃m,w.cell? ⟨2,0,none⟩=some (.int .i64 m)
def BE(B:av)(gs:List (Nat×List Int)):Prop:=∀g xs,get? gs g=some xs->∀w,B.On w->∀j (h:j<xs.length),w.cell? ⟨g,j,none⟩=some (.int .i64 xs[j])
def sgT:List (Nat×List Int):=[(0,[2,1]),(1,[4,3])]
def bc(B:av):Prop:=I8 B/\MM B/\BE B sgT
def BF:Con:=fun l os=>match l,os with
 | [.z (.int .i64) n],[]=>some (I64 n,[.z .str (ON n)],[])
 |_,_=>none
theorem I9{B:av}(hB:bc B):Valid B Tryz.prog 100 BF:=by
 intro args os C rs os' hc hC O w vals ρ0 hOn hIo hO hOI hargs hown hap;unfold BF at hc;split at hc;case h_2=>cases hc
 cases hc;obtain⟨v,rfl,hv⟩:=wb hargs;rw[bm hv];exact BC ((Tryz.strconv_Itoa _ hC.1 hC.2 w (hB.1 w hOn)).mono fun e w' ⟨he,k,os,hw⟩=>⟨he,by rw[hw];exact ja _ _ (Oa _) _ _⟩) (fun H w=>fb (ρ:=fun _=>undef))
def numOf(l:List UInt8):Nat:=l.foldl (fun n c=>n*10+(c.toNat-48)) 0
def et(l:List UInt8):Prop:=∀c∈l,48<=c.toNat/\c.toNat<=57
def wc:Con:=fun l os=>match l,os with
 | [.z .str s,.z (.int .i64) 10,.z (.int .i64) 32],[]=>some (s≠[]/\et s/\s.length<=9,[.z (.int .u64) (numOf s),.val .nilIface],[])
 |_,_=>none
theorem xK:∀(l:List UInt8) (a:Nat),a<=l.foldl (fun n c=>n*10+(c.toNat-48)) a
 | [],_=>Oa _
 |c::l,a=>Og (by omega) (xK l (a*10+(c.toNat-48)))
theorem Gc:∀(l:List UInt8) (a k:Nat),et l->a<10^k->l.foldl (fun n c=>n*10+(c.toNat-48)) a<10^(k+l.length)
 | [],_,_,_,h=>h
 |c::l,a,k,hd,h=>by
  have h1:=hd c (by simp);have:=Gc l (a*10+(c.toNat-48)) (k+1) (fun x hx=>hd x (by simp[hx])) (by rw[Rw];omega);rw[PQ,Oo,show k+(l.length+1)=k+1+l.length by omega];exact this
theorem kP{l:List UInt8}(hd:et l):numOf l<10^l.length:=by
 have:=Gc l 0 0 hd (by simp);rw[Oz] at this;exact this
theorem xL:∀(l:List UInt8) (a:Nat),et l->l.foldl (fun n c=>n*10+(c.toNat-48)) a<=4294967295->Lib.parseUintM (2^32-1) a l= .ok (l.foldl (fun n c=>n*10+(c.toNat-48)) a)
 | [],_,_,_=>rfl
 |c::l,a,hd,h=>by
  have h1:=hd c (by simp);have h2:=xK l (a*10+(c.toNat-48));rw[PQ] at h;rw[Lib.parseUintM,if_pos h1,if_neg (by omega),if_neg (by omega),xL l _ (fun x hx=>hd x (by simp[hx])) h,PQ]
theorem Ja{B:av}(hB:bc B):Valid B Tryz.prog 176 wc:=by
 intro args os C rs os' hc hC O w vals ρ0 hOn hIo hO hOI hargs hown hap;unfold wc at hc;split at hc;case h_2=>cases hc
 rename_i s;cases hc;obtain⟨u,v,t,rfl,hu,hv,ht⟩:=zX hargs;rw[bm hv,bm ht,gA hu];obtain⟨h0,h1,h2⟩:=hC;have hsz:(⟨s.toArray⟩:ByteArray).size=s.length:=by simp[ByteArray.size]
 have hlt:=kP h1;have h9:numOf s<10^9:=OC hlt (PA (by omega) h2);have hp:TI 32 s= .ok (numOf s):=by
  rw[TI,if_neg h0];exact xL s 0 h1 (by unfold numOf at h9;omega)
 refine(Tryz.strconv_ParseUint_10_at32_ok ⟨s.toArray⟩ (by rw[hsz];omega) (numOf s) hp w).mono fun e w' ⟨he,hw⟩=>?_;have hb:Below w.heap.size w w':=by
  rcases hw with hw|hw;·rw[hw];exact Below.refl _ _
  ·rw[hw];exact⟨rfl,rfl,rfl,by rw[Lib.bytesWorld_size];omega,fun k hk=>Lib.bytesWorld_at_old w _ _ k hk⟩
 subst he;exact ry (vs:=[.int .u64 (numOf s),.nilIface]) hb (fun H M=>⟨bP (ρ:=fun _=>undef),rfl,trivial⟩)
theorem fQ{xs:List Int}{k:Nat}(hk:k<xs.length):valL (xs.drop (xs.length-1-k))=xs.getD (xs.length-1-k) 0+LB*valL (xs.drop (xs.length-k)):=by
 rw[O0 (by omega),valL,show xs.length-1-k+1=xs.length-k by omega,sh,AI (by omega)];rfl
def rB(k u:Nat):List UInt8:=if k=0 then [] else N6 (k-(Oi u).length) 48++Oi u
theorem Gd{k u:Nat}(hu:u<10^(k+1)):rB k (u/10)++ [UInt8.ofNat (48+u%10)]=rB (k+1) u:=by
 unfold rB;rw[if_neg (show ¬k+1=0 by omega)];by_cases hk:k=0
 ·subst hk;have hu10:u<10:=by simpa using hu
  rw[if_pos rfl,show Oi u=[UInt8.ofNat (48+u)] by rw[Oi,dif_pos hu10]];simp[Sv hu10]
 ·rw[if_neg hk];by_cases hu10:u<10
  ·(have:u/10=0:=by omega);rw[this,show Oi 0=[48] by rw[Oi,dif_pos (by omega)];rfl,show Oi u=[UInt8.ofNat (48+u)] by rw[Oi,dif_pos hu10]];simp only[Oo,OO,Sv hu10,O4];rw[show k+1-(0+1)=(k-(0+1))+1 by omega,List.replicate_succ'];simp
  ·(have e:Oi u=Oi (u/10)++ [UInt8.ofNat (48+u%10)]:=by conv=>lhs;rw[Oi,dif_neg hu10]);rw[e];simp only[Ol,Oo,OO,O4];rw[show k+1-((Oi (u/10)).length+(0+1))=k-(Oi (u/10)).length by omega]
theorem jm:∀(k u:Nat) (v:Nat),0<v->u<10^k->Oi (u+10^k*v)=Oi v++rB k u
 |0,u,v,hv,hu=>by
  have:u=0:=by omega
  subst this;simp[rB]
 |k+1,u,v,hv,hu=>by
  have h1:0<10^k:=Nat.pow_pos (by omega);have h2:10^(k+1)*1<=10^(k+1)*v:=Nat.mul_le_mul_left _ hv;have h3:10^(k+1)=10^k*10:=Rw ..;have e1:(u+10^(k+1)*v)/10=u/10+10^k*v:=by
   rw[h3,TV,Nat.add_mul_div_right _ _ (by omega)]
  have e2:(u+10^(k+1)*v)%10=u%10:=by
   rw[h3,TV,Nat.add_mul_mod_self_right]
  rw[Oi,dif_neg (by omega),e1,e2,jm k (u/10) v hv (by omega),O4,Gd hu]
theorem Ge{s:Bool}{xs:List Int}(h:Cano xs):∀k,k<xs.length->fl s xs (k+1)=(if s=true then [45] else [])++Oi (valL (xs.drop (xs.length-1-k))).toNat
 |0,hk=>by
  have hx:=h.1.getD (xs.length-1);have e:valL (xs.drop (xs.length-1-0))=xs.getD (xs.length-1) 0:=by
   rw[fQ hk,SR,SR,PB (Oa _)];simp[valL]
  rw[e];simp only[fl,SR,if_true,OY];unfold ON;rw[if_neg (show ¬xs.getD (xs.length-1) 0<0 by omega)]
 |k+1,hk=>by
  have hx:=h.1.getD (xs.length-1-(k+1));have ih:=Ge (s:=s) h k (by omega);have hB:LB=1000000000:=rfl;have hd:Cano (xs.drop (xs.length-1-k)):=⟨fun x hx=>h.1 x (PL hx),by
   (have hne:xs.drop (xs.length-1-k)≠[]:=by intro e;have:=congrArg If e;simp at this;omega);have:=h.2;rw[<- O5 (xs.length-1-k) xs,getLastD_append hne] at this;exact this⟩
  have hpos:=(valL_pos hd).2 (by intro e;have:=congrArg If e;simp at this;omega);rw[fl,ih,if_neg (show ¬k+1=0 by omega),fQ hk,show xs.length-(k+1)=xs.length-1-k by omega,O4];congr 1;obtain⟨u,hu⟩:=Rn hx.1;obtain⟨v,hv⟩:=Rn (O8 hpos);rw[hu,hv];have hun:u<10^9:=by have:=hx.2;rw[hu] at this;omega
  have e:((u:Int)+LB*(v:Int)).toNat=u+10^9*v:=by rw[hB];omega
  rw[e,jm 9 u v (by omega) hun,rB,if_neg (show ¬(9:Nat)=0 by omega)];unfold ON;rw[if_neg (show ¬(u:Int)<0 by omega)];simp only[Od]
theorem Jb{x:Bool×List Int}(h:WOK x)(hne:0<x.2.length):fl x.1 x.2 x.2.length=ON (dec x):=by
 have:=Ge (s:=x.1) h.1 (x.2.length-1) (by omega);rw[show x.2.length-1+1=x.2.length by omega,show x.2.length-1-(x.2.length-1)=0 by omega,Oy] at this;have hp:=(valL_pos h.1).2 (by intro e;rw[e] at hne;simp at hne);rw[this];unfold ON dec;split;·rename_i hs;rw[if_pos (by omega)];simp;congr 1;omega
 ·rename_i hs;rw[if_neg (by omega)];simp
set_option maxRecDepth 100000 in
set_option maxHeartbeats 1000000 in
theorem ux(s:Bool)(p:Option Addr)(cap:Nat)(w:World):Calls Tryz.prog 45 #[.agg #[.bool s,.slice p 0 cap]] w fun e w'=>e= .returned (.string ⟨#[48]⟩)/\Below w.heap.size w w':=by
 go_enter Tryz.func45,Tryz.ntmps45
 go_wp2
 go_ret
 exact⟨rfl,(Below.refl _ _).alloc (Oa _) _⟩
def BG:Con:=fun l os=>match l,os with
 | [.z (.st (.pair .bool (.slice (.int .u32)))) x],[]=>some (WOK x/\x.2.length<CAP,[.z .str (ON (dec x))],[])
 |_,_=>none
theorem Jc{B:av}(hB:bc B):Valid B Tryz.prog 45 BG:=by
 intro args os C rs os' hc hC O w vals ρ0 hOn hIo hO hOI hargs hown hap;unfold BG at hc;split at hc;case h_2=>cases hc
 rename_i x;cases hc;obtain⟨v,rfl,hv⟩:=wb hargs;obtain⟨s,xs⟩:=x;obtain⟨hw,hcap⟩:=hC;have hcap:xs.length<1000000000000:=hcap;obtain⟨cs,rfl,hr⟩:=vO hv;obtain⟨c,d,rfl,h1,h2⟩:=hr;have h1:c=[.bool s]:=h1;subst h1;refine BC ?_ (fun H w=>fb (ρ:=fun _=>undef));by_cases hne:xs.length=0
 ·have:xs=[]:=N7 hne;subst this;have hs:s=false:=hw.2 rfl;subst hs;have e:ON (dec (false,[]))=[48]:=by
   simp[dec,valL,ON];rw[Oi,dif_pos (by omega)];rfl
  rw[e];rcases h2 with⟨rfl,_⟩|⟨b,o,p,cap,cells,rfl,_⟩;·exact ux false none 0 w
  ·exact ux false _ cap w
 ·rw[<- Jb hw (by simp only;omega)];rcases h2 with⟨rfl,h3⟩|⟨b,o,p,cap,cells,rfl,hp,h3,h4,h5,h6⟩;·simp only at h3;rw[h3] at hne;exact absurd rfl hne
  ·obtain rfl:=hp (fun e=>hne (by have e:xs=[]:=e;rw[e];rfl));have hcs:=mU h5;(have hcn:cells≠[]:=fun e=>by rw[hcs] at e;simp at e;rw[e] at hne;exact hne rfl);refine D6 s xs b o cap w (by omega) hw.1.1 (by omega) (h6.lt hcn) (fun j hj=>?_) (fun W hW=>hB.1 W (F9 hOn hW));(have hj':j<cells.length:=by rw[hcs];simpa using hj);rw[h6.2 j hj',hcs,Pp,AI hj];simp[sh,AI hj]
end Go.Proofs
end
section
namespace Go.Cm
open Go.Proofs
def eu(s p:List UInt8):Bool:=decide (p.length<=s.length)&&(s.take p.length==p)
def ay(s p:List UInt8):List UInt8:=if eu s p=true then s.drop p.length else s
theorem D7(s p:List UInt8):(decide ((p.length:Int)<=(s.length:Int))&&(OX (Px 0) (OM (Px (p.length:Int)) s)==p))=eu s p:=by
 simp[eu]
def gU(c:UInt8):Bool:=48<=c.toNat&&c.toNat<=57
def chk(s:List UInt8):Int:=
 if s=[48] then 0
 else if (ay s [45]).length=0∨(ay s [45]).getD 0 0=48 then 5
 else if (ay s [45]).all gU=false then 5
 else if 2000<(ay s [45]).length then 6
 else 0
def bK(s:List UInt8):Int:=if eu s [45]=true then-(numOf (ay s [45]):Int) else (numOf (ay s [45]):Int)
theorem Gf{s:List UInt8}(h:chk s=0):et (ay s [45])/\0<(ay s [45]).length/\(ay s [45]).length<=2000/\(s≠[48]->(ay s [45]).getD 0 0≠48):=by
 unfold chk at h;split at h
 ·rename_i h0;subst h0;refine⟨?_,by decide,by decide,fun h=>absurd rfl h⟩;intro c hc;have:ay [48] [45]=[48]:=by decide
  rw[this] at hc;simp at hc;subst hc;decide
 ·split at h;·cases h
  ·rename_i h0 h1;simp only[not_or] at h1;split at h;·cases h
   ·(rename_i h2;split at h;·cases h);·refine⟨fun c hc=>?_,by omega,by omega,fun _=>h1.2⟩;(have h3:(ay s [45]).all gU=true:=by simpa using h2);have:=Ob.1 h3 c hc;simpa [gU] using this
theorem BH{a b:Int}(h:a<b):bq a b= -1:=by rw[bq,if_pos h]
theorem BI{a b:Int}(h:b<a):bq a b=1:=by rw[bq,if_neg (by omega),if_pos h]
theorem D8(a:Int):bq a a=0:=by rw[bq,if_neg (by omega),if_neg (by omega)]
theorem D9{x y:Bool×List Int}(hx:WOK x)(h:(bq (bq (dec x) 0) (bq (dec y) 0) !=0||((x.2.length:Int)==0))=true):bq (bq (dec x) 0) (bq (dec y) 0)=bq (dec x) (dec y):=by
 have h0:=(fP hx).1;simp only[OT,bne_iff_ne,beq_iff_eq] at h;rcases h with h|h
 ·unfold bq at h ⊢;split at h<;>split at h<;>(repeat' split)<;>first|omega|(exfalso;revert h;simp;done)|(exfalso;apply h;simp;done)|rfl
 ·have:=h0.1 h;rw[this];unfold bq
  (repeat' split)<;>first|omega|rfl
theorem rC{x y:Bool×List Int}(hx:WOK x)(hy:WOK y)(h:(bq (bq (dec x) 0) (bq (dec y) 0) !=0||((x.2.length:Int)==0))=false):
  (x.1=true->bq (valL y.2) (valL x.2)=bq (dec x) (dec y))/\(x.1=false->bq (valL x.2) (valL y.2)=bq (dec x) (dec y)):=by
 obtain⟨h1,h2⟩:=fP hx;obtain⟨h3,h4⟩:=fP hy;simp only[PN,bne_eq_false_iff_eq,beq_eq_false_iff_ne] at h;obtain⟨h5,h6⟩:=h;have h5:=lI.1 h5;have hne:=h2 h6;have hy0:dec y≠0:=fun e=>by
  rw[e,D8] at h5;exact h6 (h1.2 (lI.1 h5))
 have hyl:¬(y.2.length:Int)=0:=fun e=>hy0 (h3.1 e);have hne2:=h4 hyl;refine⟨fun e=>?_,fun e=>?_⟩
 ·have hxn:=hne.1 e;have hyn:y.1=true:=by
   cases hy1:y.1 with
   |true=>rfl
   |false=>have:=hne2.2 hy1;rw[BH hxn,BI this] at h5;cases h5
  simp only[dec,e,hyn,if_true];unfold bq
  (repeat' split)<;>first|omega|rfl
 ·have hxp:=hne.2 e;have hyn:y.1=false:=by
   cases hy1:y.1 with
   |false=>rfl
   |true=>have:=hne2.1 hy1;rw[BI hxp,BH this] at h5;cases h5
  simp only[dec,e,hyn,Pd,if_false]
def eV(n:Int):Int:=((ON n.natAbs).length:Int)
theorem uy:eV 0=1:=by
 unfold eV;simp[ON];rw[Oi,dif_pos (by omega)];rfl
theorem tK{u:Nat}{k v:Nat}(hv:0<v)(hu:u<10^k):(Oi (u+10^k*v)).length=(Oi v).length+k:=by
 rw[jm k u v hv hu,Ol];unfold rB;split;·simp[*]
 ·rename_i hk;have:=jW hu (by omega);simp;omega
theorem xM:∀(l:List Int),Lim l->0<l.length->0<l.getLastD 1->((Oi (valL l).toNat).length:Int)=9*((l.length:Int)-1)+((ON (l.getLastD 1)).length:Int)
 | [x],h,_,hx=>by
  simp only[TW,List.getLastD_nil] at hx ⊢;simp only[valL,Sk,RX,Oo,OO];unfold ON;rw[if_neg (by omega)];omega
 |x::y::r,h,_,hx=>by
  have h2:Lim (y::r):=fun z hz=>h z (by simp[hz]);have hxx:=h x (by simp);have hB:LB=1000000000:=rfl;have hlast:(x::y::r).getLastD 1=(y::r).getLastD 1:=by simp[TW]
  rw[hlast] at hx ⊢;have ih:=xM (y::r) h2 (by simp) hx;have hpos:0<valL (y::r):=(valL_pos ⟨h2,by omega⟩).2 (by simp);obtain⟨u,hu⟩:=Rn hxx.1;obtain⟨v,hv⟩:=Rn (O8 hpos);have e:(valL (x::y::r)).toNat=u+10^9*v:=by
   rw[valL,hu,hv,hB];omega
  have hul:u<10^9:=by have:=hxx.2;rw[hu,hB] at this;omega
  rw[e,tK (by omega) hul];rw[hv,Od] at ih;simp only[Oo] at ih ⊢;omega
theorem Ea{x:Bool×List Int}(h:WOK x)(hne:¬(x.2.length:Int)=0):eV (dec x)=9*((x.2.length:Int)-1)+((ON (x.2.getLastD 1)).length:Int):=by
 have hl:0<x.2.length:=by omega
 have hlast:0<x.2.getLastD 1:=by
  have h1:=h.1.2;have h2:x.2.getLastD 1∈x.2:=by
   rw[Ou,OI (by intro e;rw[e] at hl;simp at hl)];exact SB _
  have:=(h.1.1 _ h2).1;omega
 rw[<- xM x.2 h.1.1 hl hlast];unfold eV ON dec;rw[if_neg (by omega)];have hv:=valL_nonneg h.1.1;split<;> · congr 3;omega
theorem xN{x:List Int}(h:Lim x)(hl:0<x.length):0<=x.getLastD 1/\x.getLastD 1<LB:=by
 have h2:x.getLastD 1∈x:=by
  rw[Ou,OI (by intro e;rw[e] at hl;simp at hl)];exact SB _
 exact h _ h2
theorem xO{x:Bool×List Int}(h:WOK x)(hc:x.2.length<CAP)(hne:¬(x.2.length:Int)=0):
  (0<=IN.wrap ((x.2.length:Int)-1)/\IN.wrap ((x.2.length:Int)-1)<(x.2.length:Int))/\nth (.int .u32) x.2 (IN.wrap ((x.2.length:Int)-1))=x.2.getLastD 1/\
   IN.wrap (x.2.getLastD 1)=x.2.getLastD 1/\IN.wrap (IN.wrap (9*IN.wrap ((x.2.length:Int)-1))+((ON (x.2.getLastD 1)).length:Int))=eV (dec x):=by
 have hc:x.2.length<1000000000000:=hc;have hl:0<x.2.length:=by omega
 have h1:=xN h.1.1 hl;have h2:=p6 h1.1 h1.2;have hB:LB=1000000000:=rfl;rw[wo,last_eq hl,wi (x:=9*_) (by omega) (by omega),wi (x:=x.2.getLastD 1) (by omega) (by omega),wo,Ea h hne];exact⟨⟨by omega,by omega⟩,rfl,rfl,rfl⟩
theorem BJ(x:Int):N2.wrap x=x%18446744073709551616:=by
 simp[IntKind.wrap,IntKind.signed,IntKind.bits]
theorem lJ{n:Int}(h:I64 n):(n<0->N2.wrap (0-N2.wrap n)=(n.natAbs:Int))/\(¬n<0->N2.wrap n=(n.natAbs:Int)):=by
 unfold I64 at h;refine⟨fun hn=>?_,fun hn=>?_⟩;·rw[BJ,BJ];omega
 ·rw[w64 (by omega) (by omega)];omega
theorem pE{u:Nat}{m:List Int}{n:Nat}(g1:m++limbs u=limbs n)(g2:u<18446744073709551616)(h:0<(u:Int)):
  ∃a:Nat,N2.wrap ((u:Int).tdiv 1000000000)=(a:Int)/\m++ [OG.wrap ((u:Int).tmod 1000000000)]++limbs a=limbs n/\a<18446744073709551616/\a<u:=by
 have hB:LB=1000000000:=rfl;obtain⟨e1,e2⟩:=tdiv_nn (n:=(u:Int)) (by omega);rw[e1,e2,hB];refine⟨u/1000000000,?_,?_,by omega,by omega⟩;·rw[w64 (by omega) (by omega)];omega
 ·rw[w32 (by omega) (by omega),<- g1];conv=>rhs;rw[limbs,dif_neg (by omega)]
  simp
theorem mq{n:Nat}(h:n<18446744073709551616):(limbs n).length<=3:=limbs_len (k:=3) (by
 have:LB^3=1000000000000000000000000000:=rfl;rw[this];omega)
theorem lK{n:Int}(h:I64 n):WOK (enc n)/\(enc n).2.length<CAP/\(enc n).2.length<=3:=by
 unfold I64 at h;have:=mq (n:=n.natAbs) (by omega);exact⟨enc_ok n,PP this (by unfold CAP;omega),this⟩
theorem Gg{l:List Int}:l.drop (l.length-0)=[]:=by simp
theorem xP{m:List Int}{k:Nat}{z:Int}(hm:Lim m)(h2:m.length<=2)(hk:k<m.length)(hz:z=valL (m.drop (m.length-k))):
  N2.wrap (N2.wrap (z*1000000000)+N2.wrap (m.getD (m.length-1-k) 0))=valL (m.drop (m.length-(k+1))):=by
 have hB:LB=1000000000:=rfl;have hx:=hm.getD (m.length-1-k);have hs:=fQ hk;have hl:Lim (m.drop (m.length-k)):=fun x hx=>hm x (PL hx);have h0:=valL_nonneg hl;have h1:=valL_lt hl;have h3:(m.drop (m.length-k)).length=k:=by simp;omega
 rw[h3] at h1;have h4:LB^k<=LB^1:=pow_mono (by omega);have h5:LB^1=1000000000:=rfl;rw[<- hz] at h0 h1 hs;rw[show m.length-(k+1)=m.length-1-k by omega,hs];rw[hB] at hx ⊢;rw[w64 hx.1 (by omega),w64 (x:=z*1000000000) (by omega) (by omega),w64 (by omega) (by omega)];omega
theorem set_drop{l:List Int}{j:Nat}{v:Int}(h:j<l.length):(l.set j v).drop j=v::l.drop (j+1):=by
 rw[List.set_eq_take_append_cons_drop,if_pos h,SF (by simp;omega)];simp[List.drop_take]
theorem pF{l:List Int}{i j:Nat}{v:Int}(h:i<j):(l.set i v).drop j=l.drop j:=by
 rw[List.drop_set];simp;omega
theorem xQ{m out:List Int}{k:Nat}{r b:Int}(hm:Lim m)(hb0:0<b)(hb1:b<LB)(hk:k<m.length)(g1:out.length=m.length)(g2:Lim out)(g3:0<=r)(g4:r<b)
  (g5:valL (out.drop (m.length-k))*b+r=valL (m.drop (m.length-k))) {n:Int} (hn:n=r*1000000000+m.getD (m.length-1-k) 0):
  0<=n/\n<18446744073709551616/\0<=n/b/\n/b<LB/\(out.set (m.length-1-k) (n/b)).length=m.length/\Lim (out.set (m.length-1-k) (n/b))/\0<=n%b/\n%b<b/\
   valL ((out.set (m.length-1-k) (n/b)).drop (m.length-(k+1)))*b+n%b=valL (m.drop (m.length-(k+1))):=by
 have hB:LB=1000000000:=rfl;have hx:=hm.getD (m.length-1-k);have hs:=fQ hk;have h0:0<=r*1000000000:=by omega
 have hq:n/b<LB:=Pg hb0 (by
  have:r*LB+LB<=b*LB:=by
   have h:=Ok (show r+1<=b by omega) (show (0:Int)<=LB by decide);rw[Qn,Rb] at h;exact h
  rw[hB] at this hx ⊢;rw[OP];omega)
 have hq0:0<=n/b:=PF (by omega) (by omega);have e:n%b+b*(n/b)=n:=Pt n b;refine⟨by omega,by rw[hB] at hx hb1;omega,hq0,hq,by simp[g1],set_lim g2 hq0 hq,Pk _ (by omega),Pe _ hb0,?_⟩;rw[show m.length-(k+1)=m.length-1-k by omega,hs,set_drop (by omega),valL,show m.length-1-k+1=m.length-k by omega,<- g5,Qn,Ow,OH,OP (n/b)];have hLr:LB*r=r*1000000000:=by rw[hB,OP]
 omega
def xR(b:Int):Prop:=0<b/\b<LB
def xS(b:Int):Prop:=0<=b/\b<LB
def kQ(m:List Int)(b:Int)(k:Nat)(r:Int)(out:List Int):Prop:=
 out.length=m.length/\Lim out/\0<=r/\r<b/\valL (out.drop (m.length-k))*b+r=valL (m.drop (m.length-k))
def jD(m:List Int)(b:Int)(k:Nat)(c:Int)(out:List Int):Prop:=
 k<=m.length/\out.length=k/\Lim out/\0<=c/\c<LB/\valL out+LB^k*c=valL (m.take k)*b
theorem Eb{m out:List Int}{r b:Int}(hm:Lim m)(hb0:0<b)(g1:out.length=m.length)(g2:Lim out)(g3:0<=r)(g4:r<b)(g5:valL out*b+r=valL m):
  out=padL (valL m/b).toNat m.length/\r=valL m%b:=by
 have h0:=valL_nonneg g2;have e1:valL m/b=valL out:=by
  rw[<- g5,RY,To _ _ (by omega),QU g3 g4,Sl]
 have e2:valL m%b=r:=by
  rw[<- g5,RY,Int.add_mul_emod_self_right,PW g3 g4]
 exact⟨g2.pad g1 (by rw[e1];omega),e2.symm⟩
theorem we{m out:List Int}{k:Nat}{c b:Int}(hm:Lim m)(hb0:0<=b)(hb1:b<LB)(g2:out.length=k)(g3:Lim out)(g4:0<=c)(g5:c<LB)(g6:valL out+LB^k*c=valL (m.take k)*b):
  N2.wrap (N2.wrap (N2.wrap (m.getD k 0)*N2.wrap b)+c)=m.getD k 0*b+c/\OG.wrap ((m.getD k 0*b+c).tmod 1000000000)=(m.getD k 0*b+c)%LB/\N2.wrap ((m.getD k 0*b+c).tdiv 1000000000)=(m.getD k 0*b+c)/LB/\
   Lim (out++ [(m.getD k 0*b+c)%LB])/\0<=(m.getD k 0*b+c)/LB/\(m.getD k 0*b+c)/LB<LB/\valL (out++ [(m.getD k 0*b+c)%LB])+LB^(k+1)*((m.getD k 0*b+c)/LB)=valL (m.take (k+1))*b:=by
 have hx:=hm.getD k;have hbd:=mul_bound hx ⟨hb0,hb1⟩ (a:=0) (c:=c) ⟨by omega,by decide⟩ ⟨g4,g5⟩;have hB:LB=1000000000:=rfl;have h4:LB*LB=1000000000000000000:=rfl;obtain⟨n,hn⟩:∃n,n=m.getD k 0*b+c:=⟨_,rfl⟩;have hn0:0<=n:=by omega
 have hn1:n<LB*LB:=by omega
 obtain⟨e1,e2,e3⟩:=ov hn0 hn1;have hr:0<=n%LB/\n%LB<LB:=⟨Pk _ (by decide),Pe _ (by decide)⟩;rw[w64 hx.1 (by omega),w64 hb0 (by omega),w64 hbd.1 (by omega),<- hn];refine⟨e1,e2,e3,g3.append (Lim.one hr.1 hr.2),PF hn0 (by decide),Pg (by decide) hn1,?_⟩;rw[valL_append,valL_one,g2,take_val,OB];have h1:n%LB+LB*(n/LB)=n:=Pt n LB;have h2:LB^k*(n%LB)+LB^k*LB*(n/LB)=LB^k*n:=by rw[Ow,<- OH,h1]
 have h3:LB^k*n=LB^k*m.getD k 0*b+LB^k*c:=by rw[hn,OH,Ow]
 rw[Qn];omega
theorem zZ{m out:List Int}{c b:Int}(hm:Lim m)(hb0:0<=b)(g2:out.length=m.length)(g3:Lim out)(g4:0<=c)(g5:c<LB)(g6:valL out+LB^m.length*c=valL m*b):
  out++ [OG.wrap c]=padL (valL m*b).toNat (m.length+1):=by
 have hB:LB=1000000000:=rfl;rw[w32 g4 (by omega)];refine(g3.append (Lim.one g4 g5)).pad (by simp[g2]) ?_;have h0:0<=valL m*b:=Pz (valL_nonneg hm) hb0;rw[valL_append,valL_one,g2,g6];omega
theorem xT{m:List Int}{b:Int}(hb:xR b):kQ m b 0 0 (N6 m.length 0):=by
 obtain⟨r1,r2,r3⟩:=replicate_zero m.length;refine⟨by simp,r1,TF _,hb.1,?_⟩;simp[valL]
theorem Ec{len k:Nat}(h:k<len):((len:Int)-1-(k:Int)).toNat=len-1-k:=by omega
theorem z6{m out:List Int}{k:Nat}{r b:Int}(hm:Lim m)(hb:xR b)(hk:k<m.length)(h:kQ m b k r out):
  kQ m b (k+1) ((N2.wrap (N2.wrap (r*1000000000)+N2.wrap (m.getD (m.length-1-k) 0))).tmod (N2.wrap b))
   (out.set ((m.length:Int)-1-(k:Int)).toNat (OG.wrap (N2.wrap ((N2.wrap (N2.wrap (r*1000000000)+N2.wrap (m.getD (m.length-1-k) 0))).tdiv (N2.wrap b))))):=by
 obtain⟨g1,g2,g3,g4,g5⟩:=h;obtain⟨b0,b1⟩:=hb;obtain⟨n0,n1,n2,n3,n4,n5,n6,n7,n8⟩:=xQ hm b0 b1 hk g1 g2 g3 g4 g5 rfl;have hx:=hm.getD (m.length-1-k);have hB:LB=1000000000:=rfl;have e1:r*1000000000<=1000000000*1000000000:=Ok (by omega) (by decide);rw[w64 hx.1 (by omega),w64 (x:=r*1000000000) (by omega) (by omega),w64 (x:=b) (by omega) (by omega),w64 n0 n1,Qw n0,Q4 n0,w64 n2 (by omega),w32 n2 (by omega),Ec hk];exact⟨n4,n5,n6,n7,n8⟩
theorem BK{b:Int}(hb:xR b):N2.wrap b≠0:=by
 obtain⟨b0,b1⟩:=hb;have hB:LB=1000000000:=rfl;rw[w64 (by omega) (by omega)];omega
theorem Ed{m out:List Int}{r b:Int}(hm:Lim m)(hb:xR b)(h:kQ m b m.length r out):
  out=padL (valL m/b).toNat m.length/\OG.wrap r=valL m%b:=by
 obtain⟨g1,g2,g3,g4,g5⟩:=h;have hB:LB=1000000000:=rfl;obtain⟨b0,b1⟩:=hb;rw[RT,Oy,Oy] at g5;obtain⟨h1,h2⟩:=Eb hm b0 g1 g2 g3 g4 g5;rw[w32 g3 (by omega)];exact⟨h1,h2⟩
theorem wg{m:List Int}{b:Int}:jD m b 0 0 []:=by
 refine⟨by omega,rfl,fun x hx=>by simp at hx,by decide,by decide,by simp[valL]⟩
theorem xU{m out:List Int}{k:Nat}{c b:Int}(hm:Lim m)(hl:m.length<CAP)(hb:xS b)(hk:(k:Int)<(m.length:Int))(h:jD m b k c out):
  ∃a:Nat,IN.wrap ((k:Int)+1)=(a:Int)/\jD m b a
   (N2.wrap ((N2.wrap (N2.wrap (N2.wrap (nth (Ty.int OG) m (k:Int))*N2.wrap b)+c)).tdiv 1000000000))
   (out++ [OG.wrap ((N2.wrap (N2.wrap (N2.wrap (nth (Ty.int OG) m (k:Int))*N2.wrap b)+c)).tmod 1000000000)])/\m.length-a<m.length-k:=by
 obtain⟨g1,g2,g3,g4,g5,g6⟩:=h;have hC:CAP=1000000000000:=rfl;obtain⟨q1,q2,q3,q4,q5,q6,q7⟩:=we hm hb.1 hb.2 g2 g3 g4 g5 g6;refine⟨k+1,by rw[wo];simp,?_,by omega⟩;rw[fO,q1,q2,q3];exact⟨by omega,by simp[g2],q4,q5,q6,q7⟩
theorem z7{m out:List Int}{k:Nat}{c b:Int}(hm:Lim m)(hb:xS b)(hk:¬(k:Int)<(m.length:Int))(h:jD m b k c out):
  out++ [OG.wrap c]=padL (valL m*b).toNat (m.length+1):=by
 obtain⟨g1,g2,g3,g4,g5,g6⟩:=h;have:k=m.length:=by omega
 subst this;rw[OD] at g6;exact zZ hm hb.1 g2 g3 g4 g5 g6
theorem ns(s p:List UInt8):(ay s p).length<=s.length:=by
 unfold ay;split<;>simp
theorem kR:chk [48]=0:=by decide
theorem jE{s:List UInt8}(h0:s≠[48])(h:ay s [45]=[]∨(ay s [45]).getD 0 0=48):chk s=5:=by
 unfold chk;rw[if_neg h0,if_pos (h.imp (fun h=>by rw[h];rfl) id)]
theorem Gh{c:UInt8}(h1:¬(c.toNat:Int)<48)(h2:¬(57:Int)<(c.toNat:Int)):gU c=true:=by
 unfold gU;simp;omega
theorem nt{s:List UInt8}{k:Nat}(h0:s≠[48])(h:¬(ay s [45]=[]∨(ay s [45]).getD 0 0=48))(hk:k<(ay s [45]).length)
  (hb:((ay s [45]).getD k 0).toNat<48∨57<((ay s [45]).getD k 0).toNat):chk s=5:=by
 unfold chk;rw[if_neg h0,if_neg (fun h'=>h (h'.imp (fun h=>N7 h) id)),if_pos];rw[T1];intro ha;have:=Ob.1 ha ((ay s [45]).getD k 0) (by
  rw[sh,AI hk];exact OE hk)
 unfold gU at this;simp only[N9,decide_eq_true_eq] at this;omega
theorem jF{s:List UInt8}(h0:s≠[48])(h:¬(ay s [45]=[]∨(ay s [45]).getD 0 0=48))(ha:(ay s [45]).all gU=true):
  chk s=if 2000<(ay s [45]).length then 6 else 0:=by
 unfold chk;rw[if_neg h0,if_neg (fun h'=>h (h'.imp (fun h=>N7 h) id)),if_neg (by rw[ha];decide)]
theorem tL{l:List UInt8}{k:Nat}(h:(l.take k).all gU=true)(hd:gU (l.getD k 0)=true):(l.take (k+1)).all gU=true:=by
 by_cases hk:k<l.length
 ·rw[S6,List.all_append,h,AI hk];rw[sh,AI hk] at hd;simpa using hd
 ·rw[Oj (by omega)] at h ⊢;exact h
theorem dI(l:List UInt8):(bytesOf l).length=l.length:=by simp[bytesOf]
theorem uz(l:List UInt8)(k:Nat):nth (.int .u8) (bytesOf l) (k:Int)=((l.getD k 0).toNat:Int):=by
 show (bytesOf l).getD (k:Int).toNat 0=_;rw[Od,bytesOf];simp only[sh,Pp];cases l[k]? <;>simp
theorem z8{s p:List UInt8}(hp:0<p.length):eu s p=decide ((ay s p).length<s.length):=by
 unfold ay;split<;>rename_i h;·rw[h];unfold eu at h;simp only[N9,decide_eq_true_eq] at h;simp;omega
 ·simp only[Bool.not_eq_true] at h;rw[h];simp
theorem ie(a b:List UInt8):numOf (a++b)=numOf a*10^b.length+numOf b:=by
 have key:∀(b:List UInt8) (x:Nat),b.foldl (fun n c=>n*10+(c.toNat-48)) x=x*10^b.length+b.foldl (fun n c=>n*10+(c.toNat-48)) 0:=by
  intro b;induction b with
  |nil=>intro x;simp
  |cons c b ih=>
   intro x;rw[PQ,ih,PQ,ih (0*10+(c.toNat-48)),Oo,Rw];rw[Nat.zero_mul,Oz,Nat.add_mul,Nat.mul_assoc,Nat.mul_comm 10,QX]
 unfold numOf;rw[List.foldl_append,key]
def ReadPhi(D:List UInt8)(r:Nat)(out:List Int):Prop:=
 out.length=r/\Lim out/\valL out=(numOf (D.drop (D.length-9*r)):Int)/\9*r<D.length+9
theorem read_start{D:List UInt8}:ReadPhi D 0 []:=by
 refine⟨rfl,fun x hx=>by simp at hx,?_,by omega⟩;simp[valL,numOf]
theorem Jd(r:Nat):(LB^r:Int)=((10^(9*r):Nat):Int):=by
 rw[Nat.pow_mul];show (1000000000:Int)^r=((1000000000^r:Nat):Int);rw[Sb];rfl
theorem read_next{D:List UInt8}{r:Nat}{out:List Int}(hd:et D)(h:ReadPhi D r out)(hr:0<(D.length:Int)-9*(r:Int)){c:List UInt8}
  (hc:c=(D.take (D.length-9*r)).drop (D.length-9*(r+1))):
  c≠[]/\et c/\c.length<=9/\ReadPhi D (r+1) (out++ [OG.wrap (numOf c)])/\D.length-9*(r+1)<=D.length-9*r:=by
 obtain⟨h1,h2,h3,h4⟩:=h;have hl:c.length=(D.length-9*r)-(D.length-9*(r+1)):=by rw[hc,Om,Of];omega
 have hdc:et c:=fun x hx=>hd x (by rw[hc] at hx;exact Pi (PL hx));have hn:=kP hdc;have hn9:10^c.length<=10^9:=PA (by omega) (by omega);have e:D.drop (D.length-9*(r+1))=c++D.drop (D.length-9*r):=by
  rw[hc];have hle:D.length-9*(r+1)<=D.length-9*r:=by omega
  have hle2:D.length-9*r<=D.length:=by omega
  generalize D.length-9*(r+1)=j at hle;generalize D.length-9*r=i at hle hle2;conv=>lhs;rw[<- O5 i D]
  rw[SF (by rw[Of];omega)]
 have hB:LB=1000000000:=rfl;have hw:OG.wrap (numOf c:Int)=(numOf c:Int):=w32 (by omega) (by omega);refine⟨fun h0=>by rw[h0] at hl;simp at hl;omega,hdc,by omega,⟨by simp[h1],?_,?_,by omega⟩,by omega⟩;·rw[hw];exact h2.append (Lim.one (by omega) (by omega))
 ·rw[hw,valL_append,valL_one,h3,h1,e,ie,Jd,show (D.drop (D.length-9*r)).length=9*r by rw[Om];omega];rw[Int.natCast_add,Q7,OP,RY]
theorem read_end{s:List UInt8}{r:Nat}{out:List Int}(h:ReadPhi (ay s [45]) r out)(hr:¬0<((ay s [45]).length:Int)-9*(r:Int)):
  dec (decide ((ay s [45]).length<s.length),out)=bK s:=by
 obtain⟨h1,h2,h3,h4⟩:=h;rw[show (ay s [45]).length-9*r=0 by omega,Oy] at h3;unfold dec bK;rw[z8 (by simp)];simp only[h3]
def nu(s:List UInt8):Prop:=s.length<70368744177664
theorem Gi(D:List UInt8):((!D==[])=true->(!D==[])=true/\(0:Int)<=0/\(0:Int)<(D.length:Int))/\((!D==[])=true->(!D==[])=true)/\((D==[])=false->(!D==[])=true):=by
 cases D with
 |nil=>simp
 |cons c l=>exact⟨fun h=>⟨h,by omega,by simp⟩,fun h=>h,fun h=>by rw[h];rfl⟩
theorem iv(D:List UInt8):(D==[]||((D.getD (Px 0) 0).toNat:Int)==48)=true↔(D=[]∨D.getD 0 0=48):=by
 have e:∀c:UInt8,((c.toNat:Int)==48)=true↔c=48:=fun c=>by
  rw[beq_iff_eq];constructor;·intro h;exact UInt8.toNat.inj (by show c.toNat=48;omega)
  ·rintro rfl;rfl
 rw[OT,e];simp
theorem eh{D:List UInt8}(h:(D==[]||((D.getD (Px 0) 0).toNat:Int)==48)=false):¬(D=[]∨D.getD 0 0=48):=by
 rw[<- iv,h];decide
theorem kS{D:List UInt8}{k:Nat}(h:(decide (nth (Ty.int TX) (bytesOf D) (k:Int)<48)||decide (57<nth (Ty.int TX) (bytesOf D) (k:Int)))=true):
  (D.getD k 0).toNat<48∨57<(D.getD k 0).toNat:=by
 rw[uz] at h;simp only[OT,decide_eq_true_eq] at h;refine h.imp (fun h=>?_) (fun h=>?_);·have h':((D.getD k 0).toNat:Int)<48:=h;omega
 ·have h':(57:Int)<((D.getD k 0).toNat:Int):=h;omega
theorem Ee{D:List UInt8}{k:Nat}(h:(decide (nth (Ty.int TX) (bytesOf D) (k:Int)<48)||decide (57<nth (Ty.int TX) (bytesOf D) (k:Int)))=false):gU (D.getD k 0)=true:=by
 rw[uz] at h;simp only[PN,decide_eq_false_iff_not] at h;exact Gh h.1 h.2
def put(xs:List Int)(k:Nat)(v:Int):List Int:=padL (v%LB^k).toNat k++xs.drop k
theorem lbpos(k:Nat):0<LB^k:=QP (by decide)
theorem BL(v:Int)(k:Nat):valL (padL (v%LB^k).toNat k)=v%LB^k:=by
 have h0:=Pk v (Rx (lbpos k));have h1:=Pe v (lbpos k);rw[padL_val _ _ (by omega)];omega
theorem wh{xs:List Int}{k:Nat}(v:Int)(h:k<=xs.length):(put xs k v).length=xs.length:=by
 unfold put;rw[Ol,padL_len,Om];omega
theorem BM{xs:List Int}(h:Lim xs)(k:Nat)(v:Int):Lim (put xs k v):=(padL_lim _ _).append fun x hx=>h x (PL hx)
theorem Gj{xs:List Int}{k:Nat}(v:Int):(put xs k v).take k=padL (v%LB^k).toNat k:=by
 unfold put;rw[SG (by rw[padL_len];omega),Oj (by rw[padL_len];omega)]
theorem Gk{xs:List Int}{k:Nat}(v:Int):(put xs k v).drop k=xs.drop k:=by
 unfold put;rw[Rj,padL_len,Qs (by rw[padL_len];omega),RT];rfl
theorem Je{xs:List Int}{k:Nat}(v u:Int):put (put xs k v) k (valL ((put xs k v).take k)+u)=put xs k (v+u):=by
 rw[Gj,BL];have:(v%LB^k+u)%LB^k=(v+u)%LB^k:=by rw[Int.emod_add_emod]
 rw[put,this,Gk,put]
theorem Gl{xs xs0:List Int}{k:Nat}{v b:Int}(h:Lim xs)(hl:k<=xs.length)(hd:xs.drop k=xs0.drop k)(hv:valL (xs.take k)=v+LB^k*b):xs=put xs0 k v:=by
 have hlim:Lim (xs.take k):=fun x hx=>h x (Pi hx);have hlen:(xs.take k).length=k:=by rw[Of];omega
 have h0:=valL_nonneg hlim;have h1:=valL_lt hlim;rw[hlen] at h1;have e:v%LB^k=valL (xs.take k):=by
  rw[show v=valL (xs.take k)+LB^k*(-b) by rw[Rr,hv];omega,P3,PW h0 h1]
 have e2:=hlim.pad hlen (v:=(v%LB^k).toNat) (by rw[e];omega);unfold put;rw[<- e2,<- hd,O5]
def jX(xs0 o:List Int)(q:Int)(i:Nat)(c b:Int)(xs:List Int):Prop:=
 i<=o.length+1/\xs.length=xs0.length/\Lim xs/\xs.drop i=xs0.drop i/\(0<=c/\c<LB)/\(i=o.length+1->c=0)/\(0<=b/\b<=1)/\
  valL (xs.take i)+q*valL (o.take i)=valL (xs0.take i)+LB^i*(c+b)
theorem Aa{xs o:List Int}{q:Int}(h:Lim xs):jX xs o q 0 0 0 xs:=
 ⟨by omega,rfl,h,rfl,⟨by decide,by decide⟩,fun _=>rfl,⟨by decide,by decide⟩,by simp[valL]⟩
theorem uA{xs xs0:List Int}{i:Nat}(h:xs.drop i=xs0.drop i):xs.getD i 0=xs0.getD i 0:=by
 have e:∀l:List Int,l.getD i 0=(l.drop i).getD 0 0:=fun l=>by simp[sh]
 rw[e,e,h]
theorem Ab{o:List Int}{q c:Int}(i:Nat)(ho:Lim o)(hq:0<=q/\q<LB)(hc:0<=c/\c<LB):0<=c+q*o.getD i 0/\c+q*o.getD i 0<LB*LB/\0<=q*o.getD i 0/\q*o.getD i 0<=LB*LB:=by
 have hb:=mul_bound hq (ho.getD i) (a:=0) (c:=c) ⟨by decide,by decide⟩ hc;omega
theorem pG{xs:List Int}{i:Nat}{v:Int}:(xs.set i v).take i=xs.take i:=by
 rw[List.take_set,List.set_eq_of_length_le (by rw[Of];omega)]
theorem xV{xs:List Int}{i:Nat}{v:Int}(h:i<xs.length):(xs.set i v).getD i 0=v:=by
 simp[sh,h]
theorem Ac{xs0 o xs:List Int}{q c b n v b2:Int}{i:Nat}(ho:Lim o)(hq:0<=q/\q<LB)(hlen:o.length+1<=xs0.length)(h:jX xs0 o q i c b xs)(hi:i<o.length+1)(hn:n=c+q*o.getD i 0)
  (hv:0<=v/\v<LB) (hb2:0<=b2/\b2<=1) (he:v-LB*b2=xs.getD i 0-n%LB-b):jX xs0 o q (i+1) (n/LB) b2 (xs.set i v):=by
 obtain⟨g1,g2,g3,g4,g5,g6,g7,g8⟩:=h;obtain⟨n0,n1,n2,n3⟩:=Ab i ho hq g5;rw[<- hn] at n0 n1;have hm:n%LB+LB*(n/LB)=n:=Pt n LB;refine⟨by omega,by rw[PR,g2],set_lim g3 hv.1 hv.2,?_,⟨PF n0 (by decide),Pg (by decide) n1⟩,fun h=>?_,hb2,?_⟩;·rw[pF (by omega),<- PH,g4,PH]
 ·have hz:o.getD i 0=0:=by rw[sh,OA (by omega)];rfl
  rw[hn,hz,Sk,RX];exact QU g5.1 g5.2
 ·rw[take_val,take_val,take_val,pG,xV (by omega),<- uA g4,OH,OB];have e1:q*(LB^i*o.getD i 0)=LB^i*(q*o.getD i 0):=by rw[<- Ow,OP q,Ow]
  have e2:LB^i*v+LB^i*(q*o.getD i 0)+LB^i*(c+b)=LB^i*(v+q*o.getD i 0+(c+b)):=by simp only[OH]
  have e3:LB^i*LB*(n/LB+b2)+LB^i*xs.getD i 0=LB^i*(LB*(n/LB+b2)+xs.getD i 0):=by simp only[OH,Ow]
  have e4:v+q*o.getD i 0+(c+b)=LB*(n/LB+b2)+xs.getD i 0:=by rw[OH];omega
  rw[e4] at e2;rw[e1];omega
theorem xW{xs0 o xs:List Int}{q c b:Int}{i:Nat}(hlen:o.length+1<=xs0.length)(h:jX xs0 o q i c b xs)(hi:¬i<o.length+1):
  xs=put xs0 (o.length+1) (valL (xs0.take (o.length+1))-q*valL o)/\decide (0<b)=decide (valL (xs0.take (o.length+1))<q*valL o):=by
 obtain⟨g1,g2,g3,g4,g5,g6,g7,g8⟩:=h;have:i=o.length+1:=by omega
 subst this;rw[g6 rfl,Sl,Oj (l:=o) (by omega)] at g8;refine⟨Gl (b:=b) g3 (by omega) g4 (by omega),?_⟩;have hlim:Lim (xs.take (o.length+1)):=fun x hx=>g3 x (Pi hx);have h0:=valL_nonneg hlim;have h1:=valL_lt hlim;rw[show (xs.take (o.length+1)).length=o.length+1 by rw[Of];omega] at h1;congr 1;by_cases hb:b=0;·subst hb;simp only[Sk] at g8;exact propext ⟨fun h=>by omega,fun h=>by omega⟩
 ·have:b=1:=by omega
  subst this;simp only[Qe] at g8;exact propext ⟨fun h=>by omega,fun h=>by omega⟩
def jY(xs0 o:List Int)(i:Nat)(c:Int)(xs:List Int):Prop:=
 i<=o.length+1/\xs.length=xs0.length/\Lim xs/\xs.drop i=xs0.drop i/\(0<=c/\c<=1)/\valL (xs.take i)+LB^i*c=valL (xs0.take i)+valL (o.take i)
theorem Ad{xs o:List Int}(h:Lim xs):jY xs o 0 0 xs:=⟨by omega,rfl,h,rfl,⟨by decide,by decide⟩,by simp[valL]⟩
theorem Ae{xs0 o xs:List Int}{c n:Int}{i:Nat}(ho:Lim o)(hlen:o.length+1<=xs0.length)(h:jY xs0 o i c xs)(hi:i<o.length+1)(hn:n=xs.getD i 0+c+o.getD i 0):
  jY xs0 o (i+1) (OG.wrap (n.tdiv 1000000000)) (xs.set i (OG.wrap (n.tmod 1000000000))):=by
 obtain⟨g1,g2,g3,g4,g5,g6⟩:=h;have hx:=g3.getD i;have ho:=ho.getD i;have hB:LB=1000000000:=rfl;have n0:0<=n:=by omega
 have hm:n%LB+LB*(n/LB)=n:=Pt n LB;have hr:0<=n%LB/\n%LB<LB:=⟨Pk _ (by decide),Pe _ (by decide)⟩;have hq0:0<=n/LB:=PF n0 (by decide);have hq1:n/LB<=1:=by rw[hB] at hx ho ⊢;omega
 rw[(tdiv_nn n0).1,(tdiv_nn n0).2,w32 hr.1 (by omega),w32 (x:=n/LB) (by omega) (by omega)];refine⟨by omega,by rw[PR,g2],set_lim g3 hr.1 hr.2,?_,⟨hq0,hq1⟩,?_⟩;·rw[pF (by omega),<- PH,g4,PH]
 ·rw[take_val,take_val,take_val,pG,xV (by omega),<- uA g4,OB];have e2:LB^i*(n%LB)+LB^i*LB*(n/LB)=LB^i*n:=by rw[Ow,<- OH,hm]
  have e3:LB^i*n=LB^i*xs.getD i 0+LB^i*c+LB^i*o.getD i 0:=by rw[hn,OH,OH]
  omega
theorem Gm{xs0 o xs:List Int}{c:Int}{i:Nat}(hlen:o.length+1<=xs0.length)(h:jY xs0 o i c xs)(hi:¬i<o.length+1):
  xs=put xs0 (o.length+1) (valL (xs0.take (o.length+1))+valL o):=by
 obtain⟨g1,g2,g3,g4,g5,g6⟩:=h;have:i=o.length+1:=by omega
 subst this;rw[Oj (l:=o) (by omega)] at g6;exact Gl (b:= -c) g3 (by omega) g4 (by rw[Rr];omega)
end Go.Cm
end
section
namespace Go.Cm
open Go.Proofs
structure pH (X V P top t2 D1 D2:Int):Prop where
 hP:0<P
 hX0:(top*LB+t2)*P<=X
 hX1:X<(top*LB+t2)*P+P
 ht:0<=t2/\t2<LB
 htop:0<=top
 hV0:(D1*LB+D2)*P<=V
 hV1:V<(D1*LB+D2)*P+P
 hD1:1<=D1
 hD2:0<=D2/\D2<LB
 hXV:X<V*LB
namespace pH
variable {X V P top t2 D1 D2:Int} (g:pH X V P top t2 D1 D2)
include g
theorem vpos:0<V:=by
 have h1:0<D1*LB+D2:=by
  have:=Ok g.hD1 (show (0:Int)<=LB by decide);have:=g.hD2.1;have:(0:Int)<LB:=by decide
  omega
 have:=Int.mul_pos h1 g.hP;have:=g.hV0;omega
theorem xpos:0<=X:=by
 have h1:0<=top*LB+t2:=by
  have:=Pz g.htop (show (0:Int)<=LB by decide);have:=g.ht.1;omega
 have:=Pz h1 (O8 g.hP);have:=g.hX0;omega
theorem qnn:0<=X/V:=PF g.xpos (O8 g.vpos)
theorem qlt:X/V<LB:=Pg g.vpos (by rw[OP];exact g.hXV)
theorem qle:X/V*V<=X:=Tt _ (Rx g.vpos)
theorem mulV{q:Int}(h0:0<=q)(h:q*V<=X){t:Int}(ht:t*P<=q*((D1*LB+D2)*P)):t<=top*LB+t2:=by
 have h1:=Oe g.hV0 h0;have h2:=g.hX1;by_cases hc:t<=top*LB+t2;·exact hc
 ·have h3:(top*LB+t2+1)*P<=t*P:=Ok (by omega) (O8 g.hP);rw[Qn (top*LB+t2) 1 P,Rb] at h3;omega
theorem first{q:Int}(h0:0<=q)(h:q*V<=X):q*D1<=top:=by
 have h1:=g.mulV h0 h (t:=q*(D1*LB+D2)) (by rw[Ow];omega);rw[OH,<- Ow] at h1;have h2:=Pz h0 g.hD2.1;have h3:=g.ht.2;by_cases hc:q*D1<=top;·exact hc
 ·have h4:(top+1)*LB<=q*D1*LB:=Ok (by omega) (by decide);rw[Qn,Rb] at h4;omega
theorem start:X/V<=min (top/D1) 999999999:=by
 have h1:=g.first g.qnn g.qle;have h2:X/V<=top/D1:=(QV (by have:=g.hD1;omega)).2 h1;have h3:=g.qlt;have hB:LB=1000000000:=rfl;omega
theorem step{q:Int}(hq:X/V<=q)(h:q*D2>(top-q*D1)*LB+t2):X/V<=q-1:=by
 by_cases hc:X/V=q
 ·exfalso;subst hc;have h1:=g.mulV g.qnn g.qle (t:=X/V*(D1*LB+D2)) (by rw[Ow];omega);rw[OH,<- Ow] at h1;rw[SH] at h;omega
 ·omega
theorem stop{q:Int}(hq0:0<=q)(hq1:q<LB)(h:¬(q*D2>(top-q*D1)*LB+t2)∨ ¬(top-q*D1<LB)):(q-1)*V<=X:=by
 have hv:=g.hV1;have hx:=g.hX0;have hP:=O8 g.hP;rw[SH,Rb];have h1:q*V<=q*((D1*LB+D2)*P+P):=Oe (O8 hv) hq0;rw[OH,<- Ow] at h1;rcases h with h|h
 ·have h2:q*(D1*LB+D2)<=top*LB+t2:=by
   rw[SH] at h;rw[OH,<- Ow];omega
  have h3:=Ok h2 hP;have h4:q*P<=LB*P:=Ok (O8 hq1) hP;have h5:LB*P<=(D1*LB+D2)*P:=Ok (by
   have:=Ok g.hD1 (show (0:Int)<=LB by decide);have:=g.hD2.1;omega) hP
  have h6:=g.hV0;omega
 ·have h2:(q*(D1*LB+D2)+q)*P<=top*LB*P:=Ok (by
   have h3:q*(D2+1)<=q*LB:=Oe (by have:=g.hD2.2;omega) hq0;have h4:(q*D1+q)*LB<=top*LB:=Ok (by omega) (by decide);rw[OH,Qe] at h3;rw[Qn] at h4;rw[OH,<- Ow];omega) hP
  rw[Qn] at h2;have h3:top*LB*P<=(top*LB+t2)*P:=Ok (by have:=g.ht.1;omega) hP;have:=g.vpos;omega
theorem last{q:Int}(hq:X/V<=q)(h:(q-1)*V<=X):(X<q*V->q-1=X/V)/\(¬X<q*V->q=X/V):=by
 have hv:=g.vpos;have h1:q-1<=X/V:=(QV hv).2 h;refine⟨fun hl=>?_,fun hl=>?_⟩;·have:X/V<q:=Pg hv hl;omega
 ·have:q<=X/V:=(QV hv).2 (by omega);omega
end pH
end Go.Cm
end
section
namespace Go.Cm
open Go.Proofs
theorem Gn{o:List Int}{q c:Int}(i:Nat)(ho:Lim o)(hq:xS q)(hc:0<=c/\c<LB):
  N2.wrap (c+N2.wrap (q*N2.wrap (nth (Ty.int OG) o (i:Int))))=c+q*o.getD i 0:=by
 obtain⟨n0,n1,n2,n3⟩:=Ab i ho hq hc;have hx:=ho.getD i;have h4:LB*LB=1000000000000000000:=rfl;have hB:LB=1000000000:=rfl;rw[fO,w64 (x:=o.getD i 0) hx.1 (by omega),w64 n2 (by omega),w64 n0 (by omega)]
theorem uB{o:List Int}{q c:Int}{i:Nat}(h:¬(i:Int)<(o.length:Int)):c=c+q*o.getD i 0:=by
 rw[sh,OA (by omega)];simp
theorem Lk{ys:List Int}{n b:Int}{i:Nat}(hy:Lim ys)(hn:0<=n/\n<LB*LB)(hb:0<=b/\b<=1):
  IN.wrap (IN.wrap (IN.wrap (nth (Ty.int OG) ys (((i:Int).toNat:Nat):Int))-IN.wrap (n.tmod 1000000000))-b)=ys.getD i 0-n%LB-b/\N2.wrap (n.tdiv 1000000000)=n/LB/\
   -LB<=ys.getD i 0-n%LB-b/\ys.getD i 0-n%LB-b<LB:=by
 have hx:=hy.getD i;have hB:LB=1000000000:=rfl;have hr:0<=n%LB/\n%LB<LB:=⟨Pk _ (by decide),Pe _ (by decide)⟩;rw[Od,fO,(tdiv_nn hn.1).2,wi (x:=ys.getD i 0) (by omega) (by omega),wi (x:=n%LB) (by omega) (by omega),wi (x:=ys.getD i 0-n%LB) (by omega) (by omega),wo];exact⟨rfl,(ov hn.1 hn.2).2.2,by omega,by omega⟩
theorem nv{ys:List Int}{n b:Int}{i:Nat}(hy:Lim ys)(hn:0<=n/\n<LB*LB)(hb:0<=b/\b<=1){r:Int}
  (hr:r=IN.wrap (IN.wrap (IN.wrap (nth (Ty.int OG) ys (((i:Int).toNat:Nat):Int))-IN.wrap (n.tmod 1000000000))-b)):
  (r<0->N2.wrap (n.tdiv 1000000000)=n/LB/\0<=IN.wrap (r+1000000000)/\IN.wrap (r+1000000000)<LB/\(0:Int)<=1/\(1:Int)<=1/\IN.wrap (r+1000000000)-LB*1=ys.getD i 0-n%LB-b)/\
  (¬r<0->N2.wrap (n.tdiv 1000000000)=n/LB/\0<=r/\r<LB/\(0:Int)<=0/\(0:Int)<=1/\r-LB*0=ys.getD i 0-n%LB-b):=by
 obtain⟨h1,h2,h3,h4⟩:=Lk (i:=i) hy hn hb;rw[h1] at hr;have hB:LB=1000000000:=rfl;refine⟨fun h=>?_,fun h=>⟨h2,by omega,by omega,by omega,by omega,by omega⟩⟩;rw[wo];exact⟨h2,by omega,by omega,by omega,by omega,by omega⟩
theorem Ef{xs0 o xs:List Int}{q c b n v b2:Int}{i:Nat}(ho:Lim o)(hq:xS q)(hlen:o.length+1<=xs0.length)(hc:o.length<CAP)(h:jX xs0 o q i c b xs)(hi:(i:Int)<((o.length+1:Nat):Int))(hn:n=c+q*o.getD i 0)
  (hv:(0<=v/\v<LB)/\(0<=b2/\b2<=1)/\v-LB*b2=xs.getD i 0-n%LB-b):
  ∃a:Nat,IN.wrap ((i:Int)+1)=(a:Int)/\jX xs0 o q a (n/LB) b2 (xs.set (i:Int).toNat (OG.wrap v))/\o.length+1-a<o.length+1-i:=by
 have hC:o.length<1000000000000:=hc;have hB:LB=1000000000:=rfl;refine⟨i+1,by rw[wo];simp,?_,by omega⟩;rw[Od,w32 hv.1.1 (by omega)];exact Ac ho hq hlen h (by omega) hn hv.1 hv.2.1 hv.2.2
theorem Eg{xs0 o xs:List Int}{c n:Int}{i:Nat}(ho:Lim o)(hlen:o.length+1<=xs0.length)(hc:o.length<CAP)(h:jY xs0 o i c xs)(hi:(i:Int)<((o.length+1:Nat):Int))(hn:n=xs.getD i 0+c+o.getD i 0):
  ∃a:Nat,IN.wrap ((i:Int)+1)=(a:Int)/\jY xs0 o a (OG.wrap (n.tdiv 1000000000)) (xs.set (i:Int).toNat (n.tmod 1000000000))/\o.length+1-a<o.length+1-i:=by
 have hC:o.length<1000000000000:=hc;have hB:LB=1000000000:=rfl;have hx:=h.2.2.1.getD i;have ho':=ho.getD i;have hcc:=h.2.2.2.2.1;have e:n.tmod 1000000000=OG.wrap (n.tmod 1000000000):=by
  rw[(tdiv_nn (by omega)).2];have hr:0<=n%LB/\n%LB<LB:=⟨Pk _ (by decide),Pe _ (by decide)⟩;rw[w32 hr.1 (by omega)]
 rw[e];refine⟨i+1,by rw[wo];simp,?_,by omega⟩;rw[Od];exact Ae ho hlen h (by omega) hn
theorem wj{ys o:List Int}{c:Int}(i:Nat)(hy:Lim ys)(ho:Lim o)(hc:0<=c/\c<=1):
  OG.wrap (OG.wrap (nth (Ty.int OG) ys (((i:Int).toNat:Nat):Int)+c)+nth (Ty.int OG) o (i:Int))=ys.getD i 0+c+o.getD i 0/\
  (¬(i:Int)<(o.length:Int)->OG.wrap (nth (Ty.int OG) ys (((i:Int).toNat:Nat):Int)+c)=ys.getD i 0+c+o.getD i 0):=by
 have hx:=hy.getD i;have hz:=ho.getD i;have hB:LB=1000000000:=rfl;rw[Od,fO,fO,w32 (x:=ys.getD i 0+c) (by omega) (by omega)];refine⟨w32 (by omega) (by omega),fun h=>?_⟩;rw[sh (l:=o),OA (by omega)];simp
theorem oy(l:List Int)(j i:Nat):(l.drop j).getD i 0=l.getD (j+i) 0:=by
 simp[sh]
theorem Lim.drop{l:List Int}(h:Lim l)(j:Nat):Lim (l.drop j):=fun x hx=>h x (PL hx)
theorem Lim.take{l:List Int}(h:Lim l)(j:Nat):Lim (l.take j):=fun x hx=>h x (Pi hx)
theorem jZ{l:List Int}(h:Lim l)(k:Nat):0<=valL (l.take k)/\valL (l.take k)<LB^k:=by
 refine⟨valL_nonneg (h.take k),TY (valL_lt (h.take k)) (pow_mono ?_)⟩;rw[Of];omega
theorem Gp(l:List Int)(k:Nat):valL l=valL (l.take k)+LB^(l.take k).length*valL (l.drop k):=by
 have h:=valL_append (l.take k) (l.drop k);rw[O5] at h;exact h
theorem nw{l:List Int}{k:Nat}(hk:k<=l.length):valL l=valL (l.take k)+LB^k*valL (l.drop k):=by
 have h:=Gp l k;rw[show (l.take k).length=k by rw[Of];omega] at h;exact h
theorem BN{l:List Int}(p:Nat):valL (l.take (p+2))=(l.getD (p+1) 0*LB+l.getD p 0)*LB^p+valL (l.take p):=by
 rw[take_val,take_val,OB];have e:LB^p*LB*l.getD (p+1) 0=l.getD (p+1) 0*LB*LB^p:=by rw[OP (LB^p) LB,OP (LB*LB^p),<- Ow]
 rw[e,Qn,OP (l.getD p 0)];omega
theorem Eh{l:List Int}(p:Nat):valL (l.take (p+3))=((l.getD (p+2) 0*LB+l.getD (p+1) 0)*LB+l.getD p 0)*LB^p+valL (l.take p):=by
 rw[take_val,BN,OB,OB];have e:LB^p*LB*LB*l.getD (p+2) 0=l.getD (p+2) 0*LB*LB*LB^p:=by
  rw[Ow (LB^p),OP (LB^p),OP (LB*LB*LB^p),<- Ow,<- Ow]
 rw[e];simp only[Qn];omega
theorem uC{T:List Int}{k:Nat}(hT:Lim T)(hk:k<=T.length)(h:valL T<LB^k):valL (T.drop k)=0/\valL T=valL (T.take k):=by
 have h1:=nw hk;have h0:=valL_nonneg (hT.drop k);have h2:=(jZ hT k).1;have h3:valL (T.drop k)=0:=by
  by_cases hz:valL (T.drop k)=0
  ·exact hz
  ·have:LB^k*1<=LB^k*valL (T.drop k):=Oe (by omega) (O8 (lbpos k));omega
 rw[h3] at h1;exact⟨h3,by omega⟩
theorem Gq{T D:List Int}{j p:Nat}(hT:Lim T)(hD:Lim D)(hDl:D.length=p+2)(hTl:j+(p+3)<=T.length)(hlt:valL T<valL D*LB^(j+1)):
  valL T=valL (T.take j)+LB^j*valL ((T.drop j).take (p+3))/\valL ((T.drop j).drop (p+3))=0:=by
 have hV:=valL_lt hD;rw[hDl] at hV;have h1:valL T<LB^(j+(p+3)):=by
  have h2:valL D*LB^(j+1)<=LB^(p+2)*LB^(j+1):=Ok (O8 hV) (O8 (lbpos _));rw[<- RK,show p+2+(j+1)=j+(p+3) by omega] at h2;omega
 obtain⟨hz,-⟩:=uC hT hTl h1;have h3:valL ((T.drop j).drop (p+3))=0:=by rw[PH];exact hz
 refine⟨?_,h3⟩;have h4:=nw (l:=T) (k:=j) (by omega);have h5:=nw (l:=T.drop j) (k:=p+3) (by rw[Om];omega);rw[h3] at h5;rw[h4,h5];simp
theorem xX{T D:List Int}{j p:Nat}(hT:Lim T)(hD:Lim D)(hDl:D.length=p+2)(hVp:LB^(p+1)<=valL D)(hTl:j+(p+3)<=T.length)(hlt:valL T<valL D*LB^(j+1)):
  pH (valL ((T.drop j).take (p+3))) (valL D) (LB^p) (T.getD (j+(p+2)) 0*LB+T.getD (j+(p+1)) 0) (T.getD (j+p) 0) (D.getD (p+1) 0) (D.getD p 0):=by
 have hX:=Eh (l:=T.drop j) p;rw[oy,oy,oy] at hX;have hx:=jZ (hT.drop j) p;have hV:=BN (l:=D) p;rw[Oj (by omega)] at hV;have hv:=jZ hD p;have hT0:=hT.getD (j+(p+2));have hT1:=hT.getD (j+(p+1));obtain⟨hw,-⟩:=Gq hT hD hDl hTl hlt;have h0:=(jZ hT j).1;refine⟨lbpos p,by omega,by omega,hT.getD _,?_,by omega,by omega,?_,hD.getD _,?_⟩;·have:=Pz hT0.1 (show (0:Int)<=LB by decide);omega
 ·by_cases h:1<=D.getD (p+1) 0
  ·exact h
  ·exfalso;(have hz:D.getD (p+1) 0=0:=by have:=(hD.getD (p+1)).1;omega);rw[hz,Int.zero_mul,Sl] at hV;have h1:(D.getD p 0+1)*LB^p<=LB*LB^p:=Ok (by have:=(hD.getD p).2;omega) (O8 (lbpos p));rw[Qn,Rb] at h1;rw[OB,OP] at hVp;omega
 ·have h1:LB^j*valL ((T.drop j).take (p+3))<LB^j*(valL D*LB):=by
   (have e:LB^j*(valL D*LB)=valL D*LB^(j+1):=by rw[OB,OP (LB^j),Ow,OP LB]);rw[e];omega
  exact Int.lt_of_mul_lt_mul_left h1 (O8 (lbpos j))
def j6(M V:Int)(lm n:Nat)(k:Nat)(T Q:List Int):Prop:=
 T.length=lm+1/\Lim T/\Q.length=lm+1-n/\Lim Q/\k<=lm+1-n/\valL T+V*(LB^k*valL (Q.drop k))=M/\valL T<V*LB^k
theorem Ei{M:Int}{D T Q:List Int}{lm j p:Nat}{q:Int}(hD:Lim D)(hDl:D.length=p+2)(hVp:LB^(p+1)<=valL D)(hlm:p+2<=lm)(h:j6 M (valL D) lm (p+2) (j+1) T Q)
  (hq:q=valL ((T.drop j).take (p+3))/valL D):
  j6 M (valL D) lm (p+2) j (T.take j++put (T.drop j) (p+3) (valL ((T.drop j).take (p+3))-q*valL D)) (Q.set j q):=by
 obtain⟨h1,h2,h3,h4,h5,h6,h7⟩:=h;have hTl:j+(p+3)<=T.length:=by omega
 have g:=xX h2 hD hDl hVp hTl h7;obtain⟨hw,hz⟩:=Gq h2 hD hDl hTl h7;have hq0:=g.qnn;have hq1:=g.qlt;have hv:=g.vpos;have hx:=g.xpos;rw[<- hq] at hq0 hq1;have hr:valL ((T.drop j).take (p+3))-q*valL D=valL ((T.drop j).take (p+3))%valL D:=by
  rw[hq,Int.emod_def,OP]
 have hr0:=Pk (valL ((T.drop j).take (p+3))) (Rx hv);have hr1:=Pe (valL ((T.drop j).take (p+3))) hv;have hVl:=valL_lt hD;rw[hDl] at hVl;have hml:valL D<=LB^(p+3):=Int.le_trans (O8 hVl) (pow_mono (by omega));have hdl:p+3<=(T.drop j).length:=by rw[Om];omega
 have hput:valL (put (T.drop j) (p+3) (valL ((T.drop j).take (p+3))-q*valL D))=valL ((T.drop j).take (p+3))-q*valL D:=by
  unfold put;rw[valL_append,BL,hz,Sk,RX,PW (by omega) (by omega)]
 have htl:(T.take j).length=j:=by rw[Of];omega
 have hval:valL (T.take j++put (T.drop j) (p+3) (valL ((T.drop j).take (p+3))-q*valL D))=valL (T.take j)+LB^j*(valL ((T.drop j).take (p+3))-q*valL D):=by
  rw[valL_append,hput,htl]
 refine⟨?_,(h2.take j).append (BM (h2.drop j) _ _),by rw[PR,h3],set_lim h4 hq0 hq1,by omega,?_,?_⟩;·rw[Ol,wh _ hdl,htl,Om];omega
 ·rw[hval,set_drop (by omega),valL];rw[hw] at h6;have e1:valL D*(LB^j*(q+LB*valL (Q.drop (j+1))))=LB^j*(q*valL D)+valL D*(LB^(j+1)*valL (Q.drop (j+1))):=by
   (have e2:valL D*(LB^j*q)=LB^j*(q*valL D):=by rw[<- Ow,OP (valL D),Ow,OP (valL D)]);rw[OH,OH,e2,OB,Ow (LB^j) LB]
  rw[e1,QY];omega
 ·rw[hval,hr];have h8:LB^j*(valL ((T.drop j).take (p+3))%valL D+1)<=LB^j*valL D:=Oe (by omega) (O8 (lbpos j));rw[OH,Qe] at h8;have h9:=(jZ h2 j).2;rw[OP (valL D)];omega
theorem uD:∀(v k j:Nat),j<=k->(padL v k).take j=padL v j
 |_,_,0,_=>by simp[padL]
 |_,0,j+1,h=>by omega
 |v,k+1,j+1,h=>by rw[padL,Pn,uD _ k j (by omega),padL]
def aE(o:List Int):Int:=1000000000/(o.getD (o.length-1) 0+1)
def iQ(m o:List Int):List Int:=
 if valL m<valL o then [] else if o.length=1 then padL (valL m/valL o).toNat m.length else padL (valL m/valL o).toNat (m.length+1-o.length)
def dX(m o:List Int):List Int:=
 if valL m<valL o then m else if o.length=1 then [valL m%valL o] else padL (valL m%valL o).toNat (limbs (valL m%valL o*aE o).toNat).length
theorem Ej{l:List Int}(h:l≠[]):l.getLastD 1=l.getD (l.length-1) 0:=by
 rw[sh,<- Qc,OI h,Ou,OI h];rfl
theorem rD{o:List Int}(ho:Cano o){p:Nat}(hp:o.length=p+2):
  (1<=aE o/\aE o<LB)/\valL o*aE o<LB^(p+2)/\LB^(p+1)<=valL o*aE o/\0<valL o:=by
 have hne:o≠[]:=by rintro rfl;simp at hp
 have hl:=ho.1.getD (p+1);have h0:o.getD (p+1) 0≠0:=by
  have:=ho.2;rw[Ej hne,hp] at this;exact this
 have hB:LB=1000000000:=rfl;have hs:aE o=1000000000/(o.getD (p+1) 0+1):=by unfold aE;rw[hp];rfl
 have hs1:1<=aE o:=by rw[hs];exact(QV (by omega)).2 (by omega)
 have hs2:aE o*(o.getD (p+1) 0+1)<=LB:=by rw[hs];exact Tt _ (by omega)
 have hge:=valL_ge ho hne;rw[hp] at hge;have hpos:=lbpos (p+1);have hvp:0<valL o:=by have:LB^(p+2-1)=LB^(p+1):=rfl;omega
 have hv:valL o<LB^(p+1)*(o.getD (p+1) 0+1):=by
  have h:=nw (l:=o) (k:=p+1) (by omega);have h1:=take_val o (p+1);rw[Oj (by omega)] at h1;have h2:=(jZ ho.1 (p+1)).2;rw[OH,Qe];omega
 refine⟨⟨hs1,?_⟩,?_,?_,hvp⟩;·have h2:aE o*2<=aE o*(o.getD (p+1) 0+1):=Oe (by omega) (by omega);omega
 ·have h1:valL o*aE o<LB^(p+1)*(o.getD (p+1) 0+1)*aE o:=Qp hv (by omega);have h2:LB^(p+1)*(o.getD (p+1) 0+1)*aE o<=LB^(p+1)*LB:=by
   rw[Ow,OP (o.getD (p+1) 0+1)];exact Oe hs2 (O8 hpos)
  have h3:LB^(p+2)=LB^(p+1)*LB:=OB LB (p+1);omega
 ·have h1:valL o*1<=valL o*aE o:=Oe hs1 (by omega);have h2:LB^(p+2-1)=LB^(p+1):=rfl;omega
theorem pI{o:List Int}(h0:o≠[])(h1:¬(o.length:Int)=1):∃p,o.length=p+2:=by
 match o,h0 with
 | [],h=>exact absurd rfl h
 | [x],_=>simp at h1
 |x::y::l,_=>exact⟨l.length,rfl⟩
theorem BO{T:List Int}{j n:Nat}(v:Int)(h:j+n<=T.length):(OM j T++put (OX j T) n v).length=T.length:=by
 rw[Ol,wh _ (by rw[Om];omega),Of,Om];omega
structure gR (m o D:List Int) (p:Nat):Prop where
 hm:Cano m
 ho:Cano o
 hp:o.length=p+2
 hle:valL o<=valL m
 hc:m.length+o.length+1<1000000000000
 hD:D=padL (valL o*aE o).toNat o.length
 hDl:D.length=p+2
 hDl3:D.length+1=p+3
 hL:Lim D
 hV:valL D=valL o*aE o
 hVp:LB^(p+1)<=valL D
 hlm:p+2<=m.length
 hs:1<=aE o/\aE o<LB
 hvo:0<valL o
 en1:IN.wrap ((o.length:Int)-1)=((p+1:Nat):Int)
 en2:IN.wrap ((o.length:Int)-2)=((p:Nat):Int)
theorem gR.mk'{m o:List Int}{p:Nat}(hm:Cano m)(ho:Cano o)(hp:o.length=p+2)(hle:valL o<=valL m)(hc:m.length+o.length+1<CAP):gR m o (padL (valL o*aE o).toNat o.length) p:=by
 have hC:m.length+o.length+1<1000000000000:=hc;obtain⟨h1,h2,h3,h4⟩:=rD ho hp;have hv0:0<=valL o*aE o:=Pz (by omega) (by omega);have hv:valL (padL (valL o*aE o).toNat o.length)=valL o*aE o:=by
  rw[padL_val _ _ (by rw[hp];omega)];omega
 have hll:=len_le ho hm hle;exact⟨hm,ho,hp,hle,hC,rfl,by rw[padL_len,hp],by rw[padL_len,hp],padL_lim _ _,hv,by rw[hv];exact h3,by omega,h1,h4,by rw[wo];omega,by rw[wo];omega⟩
theorem rE{o:List Int}{p:Nat}(ho:Cano o)(hp:o.length=p+2)(hc:o.length<1000000000000):
  (0<=IN.wrap ((o.length:Int)-1)/\IN.wrap ((o.length:Int)-1)<(o.length:Int))/\
  N2.wrap (N2.wrap (nth (Ty.int OG) o (IN.wrap ((o.length:Int)-1)))+1)≠0/\
  OG.wrap (N2.wrap (Int.tdiv 1000000000 (N2.wrap (N2.wrap (nth (Ty.int OG) o (IN.wrap ((o.length:Int)-1)))+1))))=aE o:=by
 have e:IN.wrap ((o.length:Int)-1)=((o.length-1:Nat):Int):=by rw[wo];omega
 have hx:=ho.1.getD (o.length-1);have hB:LB=1000000000:=rfl;obtain⟨h1,-⟩:=rD ho hp;have hs:aE o=1000000000/(o.getD (o.length-1) 0+1):=rfl;rw[e,fO,w64 (x:=o.getD (o.length-1) 0) hx.1 (by omega),w64 (x:=o.getD (o.length-1) 0+1) (by omega) (by omega),Qw (by decide),<- hs,w64 (by omega) (by omega),w32 (by omega) (by omega)];exact⟨⟨by omega,by omega⟩,by omega,rfl⟩
theorem Gr{a b:Int}(ha:0<=a/\a<LB)(hb:0<=b/\b<LB):
  N2.wrap (N2.wrap (N2.wrap a*1000000000)+N2.wrap b)=a*LB+b/\a*LB+b<LB*LB/\0<=a*LB+b:=by
 have hB:LB=1000000000:=rfl;rw[hB] at ha hb ⊢;rw[w64 ha.1 (by omega),w64 hb.1 (by omega),w64 (x:=a*1000000000) (by omega) (by omega),w64 (by omega) (by omega)];omega
theorem xY{top D1:Int}(h0:0<=top)(h1:top<LB*LB)(hD:1<=D1)(hD2:D1<LB):N2.wrap (top.tdiv (N2.wrap D1))=top/D1/\N2.wrap D1≠0:=by
 have hB:LB=1000000000:=rfl;have h4:LB*LB=1000000000000000000:=rfl;have h2:top/D1<=top:=SC _ h0;have h3:0<=top/D1:=PF h0 (by omega);rw[w64 (x:=D1) (by omega) (by omega),Qw h0,w64 h3 (by omega)];exact⟨rfl,by omega⟩
def Ek(X V top D1 q:Int):Prop:=X/V<=q/\q<LB/\q*D1<=top/\0<=q
theorem Jf{X V P top t2 D1 D2 gs:Int}(g:pH X V P top t2 D1 D2)(h:gs=min (top/D1) 999999999):Ek X V top D1 gs:=by
 have h1:=g.start;have hB:LB=1000000000:=rfl;have hD:=g.hD1;refine⟨by omega,by omega,?_,?_⟩;·have h2:gs*D1<=top/D1*D1:=Ok (by omega) (by omega);have h3:=Tt top (b:=D1) (by omega);omega
 ·have h2:0<=top/D1:=PF g.htop (by omega);omega
theorem Gs{X V P top t2 D1 D2 q:Int}(g:pH X V P top t2 D1 D2)(ht:top<LB*LB)(hD1:D1<LB)(h:Ek X V top D1 q):
  N2.wrap (top-N2.wrap (q*N2.wrap D1))=top-q*D1/\N2.wrap (q*N2.wrap D2)=q*D2/\
   (N2.wrap (top-N2.wrap (q*N2.wrap D1))<1000000000->N2.wrap (N2.wrap (N2.wrap (top-N2.wrap (q*N2.wrap D1))*1000000000)+N2.wrap t2)=(top-q*D1)*LB+t2):=by
 obtain⟨h1,h2,h3,h4⟩:=h;have hB:LB=1000000000:=rfl;have h5:LB*LB=1000000000000000000:=rfl;have hD:=g.hD1;have hd2:=g.hD2;have hq0:0<=q*D1:=Pz h4 (by omega);have hb:=mul_bound (x:=q) (y:=D2) (a:=0) (c:=0) ⟨h4,h2⟩ hd2 ⟨by decide,by decide⟩ ⟨by decide,by decide⟩;have ht2:=g.ht;rw[w64 (x:=D1) (by omega) (by omega),w64 (x:=q*D1) hq0 (by omega),w64 (x:=top-q*D1) (by omega) (by omega),w64 (x:=D2) hd2.1 (by omega),w64 hb.1 (by omega)];refine⟨rfl,rfl,fun hC=>?_⟩;rw[hB] at ht2 ⊢;rw[w64 (x:=t2) ht2.1 (by omega),w64 (x:=(top-q*D1)*1000000000) (by omega) (by omega),w64 (by omega) (by omega)]
theorem Ll{X V P top t2 D1 D2 q:Int}(g:pH X V P top t2 D1 D2)(ht:top<LB*LB)(hD1:D1<LB)(h:Ek X V top D1 q)
  (hb:N2.wrap (N2.wrap (N2.wrap (top-N2.wrap (q*N2.wrap D1))*1000000000)+N2.wrap t2)<N2.wrap (q*N2.wrap D2)/\N2.wrap (top-N2.wrap (q*N2.wrap D1))<1000000000):
  Ek X V top D1 (N2.wrap (q-1))/\(N2.wrap (q-1)).toNat<q.toNat:=by
 obtain⟨c1,c2,c3⟩:=Gs g ht hD1 h;rw[c3 hb.2,c2] at hb;obtain⟨h1,h2,h3,h4⟩:=h;have hs:=g.step h1 hb.1;have hq:=g.qnn;have hB:LB=1000000000:=rfl;have hD:=g.hD1;rw[w64 (by omega) (by omega)];refine⟨⟨hs,by omega,?_,by omega⟩,by omega⟩;rw[SH,Rb];omega
theorem Gt{X V P top t2 D1 D2 q:Int}(g:pH X V P top t2 D1 D2)(ht:top<LB*LB)(hD1:D1<LB)(h:Ek X V top D1 q)
  (hb:N2.wrap (N2.wrap (N2.wrap (top-N2.wrap (q*N2.wrap D1))*1000000000)+N2.wrap t2)<N2.wrap (q*N2.wrap D2)-> ¬N2.wrap (top-N2.wrap (q*N2.wrap D1))<1000000000):
  (X<q*V->q-1=X/V)/\(¬X<q*V->q=X/V):=by
 obtain⟨c1,c2,c3⟩:=Gs g ht hD1 h;have hB:LB=1000000000:=rfl;refine g.last h.1 (g.stop h.2.2.2 h.2.1 ?_);by_cases hC:N2.wrap (top-N2.wrap (q*N2.wrap D1))<1000000000;·rw[c3 hC,c2] at hb;left;intro h';exact hb h' hC
 ·right;rw[c1] at hC;rw[hB];exact hC
theorem rF{T:List Int}{j n:Nat}(v:Int)(h:j+n<=T.length):OM j (OM j T++put (OX j T) n v)=OM j T/\OX j (OM j T++put (OX j T) n v)=put (OX j T) n v:=by
 have hl:(OM j T).length=j:=by rw[Of];omega
 refine⟨?_,?_⟩;·rw[SG (by omega),Oj (by omega)]
 ·rw[Rj,hl,Qs (by omega),RT];rfl
theorem uE{T:List Int}{j n:Nat}{X q V:Int}(h:j+n<=T.length):
  OM j (OM j T++put (OX j T) n (X-q*V))++put (OX j (OM j T++put (OX j T) n (X-q*V))) n (valL (OM n (OX j (OM j T++put (OX j T) n (X-q*V))))+V)=
   OM j T++put (OX j T) n (X-(q-1)*V):=by
 obtain⟨h1,h2⟩:=rF (X-q*V) h;rw[h1,h2,Je,SH,Rb];congr 2;omega
theorem Af{m o D:List Int}{p:Nat}(f:gR m o D p):j6 (valL m*aE o) (valL D) m.length (p+2) (m.length+1-o.length) (padL (valL m*aE o).toNat (m.length+1)) (N6 (m.length+1-o.length) 0):=by
 have hm0:=valL_nonneg f.hm.1;have hm1:=valL_lt f.hm.1;have hs:=f.hs;have hp:=f.hp;have hlm:=f.hlm;have h0:0<=valL m*aE o:=Pz hm0 (by omega);have h1:valL m*aE o<LB^m.length*aE o:=Qp hm1 (by omega);have h2:LB^m.length*aE o<=LB^m.length*LB:=Oe (by omega) (O8 (lbpos _));have h3:LB^(m.length+1)=LB^m.length*LB:=OB _ _;have hv:valL (padL (valL m*aE o).toNat (m.length+1))=valL m*aE o:=by
  rw[padL_val _ _ (by omega)];omega
 refine⟨padL_len _ _,padL_lim _ _,by rw[PU,f.hp],(replicate_zero _).1,by omega,?_,?_⟩;·rw[Qs (by rw[PU];omega),hv];simp[valL]
 ·rw[hv];have hge:=valL_ge f.ho (by rintro h;have:=f.hp;rw[h] at this;simp at this);rw[hp] at hge;have h4:LB^(p+1)*aE o<=valL D:=by
   rw[f.hV];exact Ok hge (by omega)
  have h5:LB^(p+1)*aE o*LB^(m.length+1-o.length)<=valL D*LB^(m.length+1-o.length):=Ok h4 (O8 (lbpos _));have h6:LB^(p+1)*aE o*LB^(m.length+1-o.length)=LB^m.length*aE o:=by
   rw[OP (LB^(p+1)),Ow,<- RK,show p+1+(m.length+1-o.length)=m.length by omega,OP]
  omega
theorem Gu{m o D T Q:List Int}{p:Nat}(f:gR m o D p)(h:j6 (valL m*aE o) (valL D) m.length (p+2) 0 T Q):
  valL Q=valL m/valL o/\valL T=valL m%valL o*aE o/\valL (T.take o.length)=valL T:=by
 obtain⟨h1,h2,h3,h4,h5,h6,h7⟩:=h;have hs:=f.hs;have hvo:=f.hvo;rw[Oy,SS,Rb] at h6;rw[SS,Qe] at h7;have h0:=valL_nonneg h2;have hVl:=valL_lt f.hL;rw[f.hDl] at hVl;have h8:valL T=(valL m-valL o*valL Q)*aE o:=by
  rw[SH,Ow,OP (valL Q),<- Ow,<- f.hV];omega
 rw[f.hV] at h7;have h9:0<=valL m-valL o*valL Q:=by
  by_cases hc:0<=valL m-valL o*valL Q
  ·exact hc
  ·have:=Ok (show valL m-valL o*valL Q<= -1 by omega) (show 0<=aE o by omega);omega
 have h10:valL m-valL o*valL Q<valL o:=Int.lt_of_mul_lt_mul_right (a:=aE o) (by rw[<- h8];exact h7) (by omega);have e1:valL m/valL o=valL Q:=by
  rw[show valL m=(valL m-valL o*valL Q)+valL Q*valL o by rw[OP (valL Q)];omega,To _ _ (by omega),QU h9 h10,Sl]
 refine⟨e1.symm,?_,?_⟩;·rw[h8,Int.emod_def,e1]
 ·have:=f.hp;have:=f.hlm;exact(uC h2 (by omega) (by rw[f.hp];have:=f.hV;omega)).2.symm
theorem Jg{m o D T Q:List Int}{p:Nat}(f:gR m o D p)(h:j6 (valL m*aE o) (valL D) m.length (p+2) 0 T Q):
  Q=iQ m o/\padL (valL (enc (dec (false,T.take o.length))).2/aE o).toNat (enc (dec (false,T.take o.length))).2.length=dX m o:=by
 obtain⟨e1,e2,e3⟩:=Gu f h;have hs:=f.hs;have hp:=f.hp;have hv0:=Pk (valL m) (Rx f.hvo);have ed:dec (false,T.take o.length)=valL m%valL o*aE o:=by
  show valL (T.take o.length)=_;rw[e3,e2]
 have hr:0<=valL m%valL o*aE o:=Pz hv0 (by omega);refine⟨?_,?_⟩;·unfold iQ;rw[if_neg (by have:=f.hle;omega),if_neg (by omega)];refine h.2.2.2.1.pad (by rw[h.2.2.1,f.hp]) ?_;rw[e1];have:=PF (valL_nonneg f.hm.1) (O8 f.hvo);omega
 ·unfold dX;rw[if_neg (by have:=f.hle;omega),if_neg (by omega),ed];show padL (valL (limbs (valL m%valL o*aE o).natAbs)/aE o).toNat (limbs (valL m%valL o*aE o).natAbs).length=_;rw[limbs_val,show ((valL m%valL o*aE o).natAbs:Int)=valL m%valL o*aE o by omega,Int.mul_ediv_cancel _ (by omega)];rw[show (valL m%valL o*aE o).natAbs=(valL m%valL o*aE o).toNat by omega]
theorem Gv{m o:List Int}(h:bq (valL m) (valL o)<0): []=iQ m o/\m=dX m o:=by
 have h':valL m<valL o:=by
  unfold bq at h;split at h;·assumption
  ·split at h<;>omega
 unfold iQ dX;rw[if_pos h',if_pos h'];exact⟨rfl,rfl⟩
theorem Gw{a b:Int}(h:¬bq a b<0):b<=a:=by
 unfold bq at h;split at h<;>omega
theorem div_one{m o:List Int}(ho:Cano o)(h0:¬bq (valL m) (valL o)<0)(h1:(o.length:Int)=1):
  xR (nth (Ty.int OG) o 0)/\padL (valL m/nth (Ty.int OG) o 0).toNat m.length=iQ m o/\ [valL m%nth (Ty.int OG) o 0]=dX m o:=by
 have hge:=Gw h0;match o,ho,h1 with
 | [x],ho,_=>
  have hx:=ho.1 x (by simp);have hx0:x≠0:=ho.2;have e:valL [x]=x:=valL_one x;rw[e] at hge;show xR x/\padL (valL m/x).toNat m.length=_/\ [valL m%x]=_;unfold iQ dX;rw[e,if_neg (by omega),if_pos (by rfl),if_neg (by omega),if_pos (by rfl)];exact⟨⟨by omega,hx.2⟩,rfl,rfl⟩
 | [],_,h1=>simp at h1
 |_::_::_,_,h1=>simp at h1;omega
theorem El{m o D:List Int}{p:Nat}(f:gR m o D p):(Lim m/\xS (aE o)/\m.length<CAP)/\(Lim o/\xS (aE o)/\o.length<CAP)/\(0:Int)<=0/\(0:Int)<=(o.length:Int)/\(o.length:Int)<=((padL (valL o*aE o).toNat (o.length+1)).length:Int):=by
 have hc:=f.hc;have hs:=f.hs;rw[padL_len];exact⟨⟨f.hm.1,⟨by omega,hs.2⟩,by unfold CAP;omega⟩,⟨f.ho.1,⟨by omega,hs.2⟩,by unfold CAP;omega⟩,by omega,by omega,by omega⟩
theorem BP{m o D:List Int}{p:Nat}(f:gR m o D p):OX (Px 0) (OM (o.length:Int).toNat (padL (valL o*aE o).toNat (o.length+1)))=D:=by
 rw[Od,uD _ _ _ (by omega),f.hD];rfl
theorem Em{m o D:List Int}{p:Nat}(f:gR m o D p){n:Int}(hn:n=IN.wrap (((padL (valL m*aE o).toNat (m.length+1)).length:Int)-((OX (Px 0) (OM (o.length:Int).toNat (padL (valL o*aE o).toNat (o.length+1)))).length:Int)):=by rfl):
  0<=n/\n<=n/\Cm.Roomy 1 n.toNat:=by
 have hc:=f.hc;have hlm:=f.hlm;have hp:=f.hp;rw[BP f,padL_len,f.hDl,wo] at hn;exact⟨by omega,by omega,by unfold Cm.Roomy;omega⟩
theorem Jh{m o D:List Int}{p:Nat}(f:gR m o D p):OX (Px 0) (OM (o.length:Int).toNat (padL (valL o*aE o).toNat (o.length+1)))=D/\
  ((OX (Px 0) (OM (o.length:Int).toNat (padL (valL o*aE o).toNat (o.length+1)))).length:Int)=(o.length:Int)/\
  IN.wrap (IN.wrap (((padL (valL m*aE o).toNat (m.length+1)).length:Int)-((OX (Px 0) (OM (o.length:Int).toNat (padL (valL o*aE o).toNat (o.length+1)))).length:Int))-1)=((m.length+1-o.length:Nat):Int)-1/\
  N6 (IN.wrap (((padL (valL m*aE o).toNat (m.length+1)).length:Int)-((OX (Px 0) (OM (o.length:Int).toNat (padL (valL o*aE o).toNat (o.length+1)))).length:Int))).toNat (0:Int)=N6 (m.length+1-o.length) 0:=by
 have hc:=f.hc;have hlm:=f.hlm;have hp:=f.hp;have hD:=f.hDl;rw[BP f,padL_len,f.hDl,wi (x:=((m.length+1:Nat):Int)-((p+2:Nat):Int)) (by omega) (by omega),wo];exact⟨rfl,by omega,by omega,by congr 1;omega⟩
theorem Ag{m o D T Q:List Int}{p k:Nat}(f:gR m o D p)(h:j6 (valL m*aE o) (valL D) m.length (p+2) k T Q)(hk:k=0):
  ((0:Int)<=0/\(0:Int)<=(o.length:Int)/\(o.length:Int)<=(T.length:Int))/\(Lim (OX (Px 0) (OM (o.length:Int).toNat T))/\(OX (Px 0) (OM (o.length:Int).toNat T)).length<CAP)/\
   Lim (enc (dec (false,OX (Px 0) (OM (o.length:Int).toNat T)))).2/\xR (aE o)/\(enc (dec (false,OX (Px 0) (OM (o.length:Int).toNat T)))).2.length<CAP:=by
 have hc:=f.hc;have hlm:=f.hlm;have hp:=f.hp;have h1:=h.1;rw[Od];show _/\(Lim (OM o.length T)/\(OM o.length T).length<CAP)/\Lim (limbs (dec (false,OM o.length T)).natAbs)/\_/\(limbs (dec (false,OM o.length T)).natAbs).length<CAP;have hl:(OM o.length T).length=o.length:=by rw[Of];omega
 have h2:(limbs (dec (false,OM o.length T)).natAbs).length<=o.length:=limbs_len (by
  have h3:=jZ h.2.1 o.length;show ((valL (OM o.length T)).natAbs:Int)<_;omega)
 refine⟨⟨by omega,by omega,by omega⟩,⟨h.2.1.take _,by rw[hl];unfold CAP;omega⟩,(limbs_can _).1,⟨by have:=f.hs;omega,f.hs.2⟩,by unfold CAP;omega⟩
def fm(x y:Int):Int:=if 0<y then x/y else (-x)/(-y)
def oz(x y:Int):Int:=x-y*fm x y
theorem kT{m o:List Int}(hm:Cano m)(ho:Cano o)(hne:o≠[]):
  valL (iQ m o)=valL m/valL o/\valL (dX m o)=valL m%valL o/\Lim (iQ m o)/\Lim (dX m o)/\(iQ m o).length<=m.length/\(dX m o).length<=m.length+1:=by
 have hm0:=valL_nonneg hm.1;have hvo:0<valL o:=(valL_pos ho).2 hne;have hml:=valL_lt hm.1;have hd0:0<=valL m/valL o:=PF hm0 (by omega);have hd1:valL m/valL o<=valL m:=SC _ hm0;have hr0:=Pk (valL m) (Rx hvo);have hr1:=Pe (valL m) hvo;by_cases hlt:valL m<valL o;·have e1:valL m/valL o=0:=QU hm0 hlt;have e2:valL m%valL o=valL m:=PW hm0 hlt;unfold iQ dX;rw[if_pos hlt,if_pos hlt,e1,e2];exact⟨rfl,rfl,fun x hx=>by simp at hx,hm.1,by simp,by omega⟩
 ·have hle:=len_le ho hm (by omega);by_cases h1:o.length=1;·unfold iQ dX;rw[if_neg hlt,if_neg hlt,if_pos h1,if_pos h1];(have hx:valL o<LB:=by have h:=valL_lt ho.1;rw[h1,OB,SS,Rb] at h;exact h);refine⟨by rw[padL_val _ _ (by omega)];omega,valL_one _,padL_lim _ _,Lim.one hr0 (by omega),by rw[padL_len];omega,by simp⟩
  ·obtain⟨p,hp⟩:=pI hne (by omega);have hs:=rD ho hp;unfold iQ dX;rw[if_neg hlt,if_neg hlt,if_neg h1,if_neg h1];have hr2:valL m%valL o<=valL m%valL o*aE o:=by
    have:=Oe hs.1.1 hr0;omega
   have hr3:valL m%valL o*aE o<LB^(p+2):=by
    have:=Ok (O8 hr1) (show 0<=aE o by omega);omega
   have hr4:=limbs_len (n:=(valL m%valL o*aE o).toNat) (k:=p+2) (by omega);have hr5:=valL_lt (limbs_can (valL m%valL o*aE o).toNat).1;rw[limbs_val] at hr5;have hge:=valL_ge ho hne;refine⟨?_,?_,padL_lim _ _,padL_lim _ _,by rw[padL_len];omega,by rw[padL_len];omega⟩
   ·rw[padL_val];·omega
    ·have h2:valL m/valL o<LB^(m.length+1-o.length):=by
      refine Pg hvo ?_;have h3:LB^(m.length+1-o.length)*LB^(o.length-1)<=LB^(m.length+1-o.length)*valL o:=Oe hge (O8 (lbpos _));rw[<- RK,show m.length+1-o.length+(o.length-1)=m.length by omega] at h3;omega
     omega
   ·rw[padL_val _ _ (by omega)];omega
theorem Ji{a b:Int}(hb:0<b):(a%b=0->(-a)/b= -(a/b))/\(a%b≠0->(-a)/b= -(a/b)-1):=by
 have h:=Pt a b;have h0:=Pk a (Rx hb);have h1:=Pe a hb;refine⟨fun hz=>?_,fun hz=>?_⟩;·refine((TJ (r:=0) hb).2 ⟨?_,by omega,hb⟩).1;rw[Rr];omega
 ·refine((TJ (r:=b-a%b) hb).2 ⟨?_,by omega,by omega⟩).1;rw[QY,Rr,Qe];omega
theorem p7{x:Bool×List Int}(h:WOK x):valL x.2=(dec x).natAbs/\(x.1=true->dec x<0)/\(x.1=false->0<=dec x):=by
 have h0:=valL_nonneg h.1.1;unfold dec;refine⟨by split<;>omega,fun e=>?_,fun e=>by rw[if_neg (by rw[e];decide)];exact h0⟩;rw[if_pos e];have hne:x.2≠[]:=fun hn=>by rw[h.2 hn] at e;cases e
 have:=(valL_pos h.1).2 hne;omega
theorem uF{x y:Bool×List Int}(hx:WOK x)(hy:WOK y)(hne:dec y≠0):
  (dec (x.1,dX x.2 y.2)≠0/\(x.1 !=y.1)=true->dec (x.1 !=y.1,iQ x.2 y.2)-1=fm (dec x) (dec y)/\dec (x.1,dX x.2 y.2)+dec y=oz (dec x) (dec y))/\
  (¬(dec (x.1,dX x.2 y.2)≠0/\(x.1 !=y.1)=true)->dec (x.1 !=y.1,iQ x.2 y.2)=fm (dec x) (dec y)/\dec (x.1,dX x.2 y.2)=oz (dec x) (dec y)):=by
 have hyne:y.2≠[]:=fun h=>hne (by unfold dec;rw[h];simp[valL]);obtain⟨v1,v2,-⟩:=kT hx.1 hy.1 hyne;obtain⟨x1,x2,x3⟩:=p7 hx;obtain⟨y1,y2,y3⟩:=p7 hy;obtain⟨sx,mx⟩:=x;obtain⟨sy,my⟩:=y;simp only at*;have hb:0<valL my:=(valL_pos hy.1).2 hyne;have h:=Pt (valL mx) (valL my);obtain⟨n1,n2⟩:=Ji (a:=valL mx) hb;have ex:dec (sx,mx)=if sx=true then-valL mx else valL mx:=rfl
 have ey:dec (sy,my)=if sy=true then-valL my else valL my:=rfl
 have er:dec (sx,dX mx my)=if sx=true then-(valL mx%valL my) else valL mx%valL my:=by unfold dec;rw[v2]
 have eq:dec (sx !=sy,iQ mx my)=if (sx !=sy)=true then-(valL mx/valL my) else valL mx/valL my:=by unfold dec;rw[v1]
 unfold oz fm;rw[er,eq,ex,ey];cases sx<;>cases sy;·simp only[Pd,if_false,bne_self_eq_false,and_false,false_implies,not_false_eq_true,true_implies,true_and,if_pos hb];omega
 ·simp only[Pd,if_false,if_true,Bool.false_bne,and_true,Ub,if_neg (show ¬0< -valL my by omega)];refine⟨fun hr=>?_,fun hr=>?_⟩;·rw[n2 hr];refine⟨rfl,?_⟩;rw[TH,QY,Rr,Qe];omega
  ·(have hr0:valL mx%valL my=0:=by omega);rw[n1 hr0];refine⟨rfl,?_⟩;rw[TH,Rr];omega
 ·simp only[Pd,if_false,if_true,Bool.true_bne,Rl,and_true,if_pos hb];refine⟨fun hr=>?_,fun hr=>?_⟩;·rw[n2 (by omega)];refine⟨rfl,?_⟩;rw[QY,Rr,Qe];omega
  ·(have hr0:valL mx%valL my=0:=by omega);rw[n1 hr0];refine⟨rfl,?_⟩;rw[Rr];omega
 ·simp only[Pd,if_false,if_true,bne_self_eq_false,and_false,false_implies,not_false_eq_true,true_implies,true_and,Ub,if_neg (show ¬0< -valL my by omega)];rw[TH];omega
end Go.Cm
end
section
namespace Go.Cm
open Go.Proofs
theorem BQ{s:Bool}{l:List Int}(h:Lim l):(enc (dec (s,l))).2.length<=l.length:=by
 show (limbs (dec (s,l)).natAbs).length<=_;refine limbs_len ?_;have h0:=valL_nonneg h;have h1:=valL_lt h;unfold dec;split<;>simp only<;>omega
structure mr (x y:Bool×List Int):Prop where
 hx:WOK x
 hy:WOK y
 hne:dec y≠0
 hc:x.2.length+y.2.length+3<CAP
namespace mr
variable {x y:Bool×List Int} (h:mr x y)
include h
theorem ne:y.2≠[]:=fun e=>h.hne (by unfold dec;rw[e];simp[valL])
theorem side1:Cano x.2/\Cano y.2/\y.2≠[]/\x.2.length+y.2.length+1<CAP:=⟨h.hx.1,h.hy.1,h.ne,by have:=h.hc;omega⟩
theorem side2:(Lim (iQ x.2 y.2)/\(iQ x.2 y.2).length<CAP)/\Lim (dX x.2 y.2)/\(dX x.2 y.2).length<CAP:=by
 obtain⟨v1,v2,v3,v4,v5,v6⟩:=kT h.hx.1 h.hy.1 h.ne;have:=h.hc;exact⟨⟨v3,by omega⟩,v4,by omega⟩
theorem cond:(bq (dec (enc (dec (x.1,dX x.2 y.2)))) 0≠0/\x.1≠y.1)↔(dec (x.1,dX x.2 y.2)≠0/\(x.1 !=y.1)=true):=by
 rw[bG,ne_eq,lI,bne_iff_ne]
theorem side4:I64 1/\(WOK (enc (dec (x.1 !=y.1,iQ x.2 y.2)))/\WOK (enc 1)/\(enc (dec (x.1 !=y.1,iQ x.2 y.2))).2.length+(enc 1).2.length<CAP)/\WOK (enc (dec (x.1,dX x.2 y.2)))/\WOK y/\(enc (dec (x.1,dX x.2 y.2))).2.length+y.2.length<CAP:=by
 obtain⟨v1,v2,v3,v4,v5,v6⟩:=kT h.hx.1 h.hy.1 h.ne;have e1:=BQ (s:=x.1 !=y.1) v3;have e2:=BQ (s:=x.1) v4;have e3:=lK (n:=1) (by unfold I64;omega);have:=h.hc;exact⟨by unfold I64;omega,⟨enc_ok _,e3.1,by omega⟩,enc_ok _,h.hy,by omega⟩
theorem fin1(hb:bq (dec (enc (dec (x.1,dX x.2 y.2)))) 0≠0/\x.1≠y.1):
  enc (dec (enc (dec (x.1 !=y.1,iQ x.2 y.2)))-dec (enc 1))=enc (fm (dec x) (dec y))/\enc (dec (enc (dec (x.1,dX x.2 y.2)))+dec y)=enc (oz (dec x) (dec y)):=by
 obtain⟨h1,h2⟩:=(uF h.hx h.hy h.hne).1 (h.cond.1 hb);rw[bG,bG,bG,h1,h2];exact⟨rfl,rfl⟩
theorem fin2(hb:(bq (dec (enc (dec (x.1,dX x.2 y.2)))) 0 !=0)=true->x.1=y.1):
  enc (dec (x.1 !=y.1,iQ x.2 y.2))=enc (fm (dec x) (dec y))/\enc (dec (x.1,dX x.2 y.2))=enc (oz (dec x) (dec y)):=by
 obtain⟨h1,h2⟩:=(uF h.hx h.hy h.hne).2 (fun hc=>by
  obtain⟨h3,h4⟩:=h.cond.2 hc;exact h4 (hb (by rw[bne_iff_ne];exact h3)))
 rw[h1,h2];exact⟨rfl,rfl⟩
end mr
end Go.Cm
end
section
namespace Go.Cm
open Go.Proofs
def dK(a b:Int):Int:=(RG a.natAbs b.natAbs:Nat)
theorem xZ(u v:Nat):RG v (u%v)=RG u v:=(T3 _ _).trans ((Nat.gcd_rec v u).symm.trans (T3 _ _))
theorem gr{l:List Int}(h:0<l.length):l≠[]:=by rintro rfl;simp at h
theorem Ah{l:List Int}(h:l.length=0):l=[]:=N7 h
structure oA (x y:Bool×List Int):Prop where
 hx:WOK x
 hy:WOK y
 hc:2*(x.2.length+y.2.length)+4<CAP
structure wk (x y:Bool×List Int) (u v:List Int):Prop where
 hu:Cano u
 hv:Cano v
 hul:u.length<=x.2.length+y.2.length
 hvl:v.length<=x.2.length+y.2.length
 hg:RG (valL u).toNat (valL v).toNat=RG (dec x).natAbs (dec y).natAbs
theorem wk.start{x y:Bool×List Int}(h:oA x y):wk x y x.2 y.2:=by
 refine⟨h.hx.1,h.hy.1,by omega,by omega,?_⟩;rw[(p7 h.hx).1,(p7 h.hy).1,Od,Od]
namespace wk
variable {x y:Bool×List Int} {u v:List Int} (h:wk x y u v) (hp:oA x y)
include h hp
theorem side3(hne:v≠[]):Cano u/\Cano v/\v≠[]/\u.length+v.length+1<CAP:=⟨h.hu,h.hv,hne,by have:=hp.hc;have:=h.hul;have:=h.hvl;omega⟩
theorem side4(hne:v≠[]):Lim (dX u v)/\(dX u v).length<CAP:=by
 obtain⟨v1,v2,v3,v4,v5,v6⟩:=kT h.hu h.hv hne;exact⟨v4,by have:=hp.hc;have:=h.hul;omega⟩
omit hp in
theorem rest(hne:v≠[]):Cano (enc (dec (false,dX u v))).2/\valL (enc (dec (false,dX u v))).2=valL u%valL v/\(enc (dec (false,dX u v))).2.length<=v.length/\0<=valL u%valL v/\valL u%valL v<valL v:=by
 obtain⟨v1,v2,v3,v4,v5,v6⟩:=kT h.hu h.hv hne;have hvo:0<valL v:=(valL_pos h.hv).2 hne;have hr0:=Pk (valL u) (Rx hvo);have hr1:=Pe (valL u) hvo;have e:dec (false,dX u v)=valL u%valL v:=v2;rw[e];have hl:=valL_lt h.hv.1;refine⟨limbs_can _,?_,limbs_len (by omega),hr0,hr1⟩;show valL (limbs (valL u%valL v).natAbs)=_;rw[limbs_val];omega
theorem next(hne:v≠[]):wk x y v (enc (dec (false,dX u v))).2/\(valL (enc (dec (false,dX u v))).2).toNat<(valL v).toNat:=by
 obtain⟨r1,r2,r3,r4,r5⟩:=h.rest hne;have hu0:=valL_nonneg h.hu.1;have hv0:=valL_nonneg h.hv.1;refine⟨⟨h.hv,r1,h.hvl,by have:=h.hvl;omega,?_⟩,by rw[r2];omega⟩;rw[<- h.hg,r2,Int.toNat_emod hu0 hv0];exact xZ _ _
omit hp in
theorem stop(he:v=[]):enc (dec (false,u))=enc (dK (dec x) (dec y)):=by
 have hg:=h.hg;subst he;have hu0:=valL_nonneg h.hu.1;show enc (valL u)=_;unfold dK;rw[<- hg];congr 1;simp[valL];omega
end wk
structure wm (x y:Bool×List Int) (a b:Int):Prop where
 a0:0<=a
 a1:a<18446744073709551616
 b0:0<=b
 b1:b<18446744073709551616
 hg:RG a.toNat b.toNat=RG (dec x).natAbs (dec y).natAbs
theorem Gx{l:List Int}(h:Lim l)(hl:l.length<=2):valL l<18446744073709551616:=by
 have h1:=valL_lt h;have h2:=pow_mono hl;have h3:LB^2=1000000000000000000:=rfl;omega
theorem wm.start{x y:Bool×List Int}{u v:List Int}(h:wk x y u v)(hp:oA x y)(hne:v≠[])(hl:v.length<=2):wm x y (valL v) (valL (enc (dec (false,dX u v))).2):=by
 obtain⟨r1,r2,r3,r4,r5⟩:=h.rest hne;exact⟨valL_nonneg h.hv.1,Gx h.hv.1 hl,valL_nonneg r1.1,Gx r1.1 (by omega),(h.next hp hne).1.hg⟩
theorem wm.next{x y:Bool×List Int}{a b:Int}(h:wm x y a b)(hb:0<b):wm x y b (a.tmod b)/\(a.tmod b).toNat<b.toNat:=by
 rw[Q4 h.a0];have h0:=Pk a (Rx hb);have h1:=Pe a hb;have:=h.b1;refine⟨⟨h.b0,h.b1,h0,by omega,?_⟩,by omega⟩;rw[<- h.hg,Int.toNat_emod h.a0 h.b0];exact xZ _ _
theorem wm.stop{x y:Bool×List Int}{a b:Int}(h:wm x y a b)(hb:¬0<b):a=((dK (dec x) (dec y)).toNat:Int)/\(dK (dec x) (dec y)).toNat<18446744073709551616:=by
 have hg:=h.hg;have:=h.b0;obtain rfl:b=0:=by omega
 have:(0:Int).toNat=0:=rfl;rw[this,Nat.gcd_zero_right] at hg;have h0:=h.a0;have h1:=h.a1;unfold dK;rw[Od,<- hg];omega
theorem Jj(a b:Int):(false,limbs (dK a b).toNat)=enc (dK a b):=by
 unfold enc dK;simp
end Go.Cm
end
section
namespace Go.Cm
open Go.Proofs
abbrev WT:Ty:= .st (.pair .bool (.slice (.int .u32)))
theorem rG(n:Int){k:Nat}(h:(enc n).2.length<=k):(n.natAbs:Int)<LB^k:=by
 have h1:=valL_lt (limbs_can n.natAbs).1;rw[limbs_val] at h1;exact TY h1 (pow_mono h)
theorem I64.b{n:Int}(h:I64 n): -9223372036854775808<=n/\n<=9223372036854775807:=h
theorem x7{d:Nat}(h:d<10):(UInt8.ofNat (48+d)).toNat=48+d:=by
 rw[UInt8.toNat_ofNat'];exact Sv (by omega)
theorem mu:∀(u:Nat),et (Oi u)/\numOf (Oi u)=u/\(Oi u)≠[]/\(0<u->(Oi u).getD 0 0≠48):=by
 intro u;induction u using Nat.strongRecOn with
 |ind u ih=>
  rw[Oi];split
  ·(rename_i h;have hc:=x7 h;refine⟨fun c hc'=>?_,?_,by simp,fun hp=>?_⟩;·simp only[Ph] at hc';rw[hc',hc];omega);·simp only[numOf,PQ,List.foldl_nil,hc];omega
   ·simp only[List.getD_cons_zero];intro e;have:=congrArg UInt8.toNat e;rw[hc] at this;have h48:(48:UInt8).toNat=48:=rfl;omega
  ·rename_i h;have hc:=x7 (d:=u%10) (by omega);obtain⟨h1,h2,h3,h4⟩:=ih (u/10) (by omega);refine⟨fun c hc'=>?_,?_,by simp,fun _=>?_⟩
   ·(rcases Oq.1 hc' with hc'|hc';·exact h1 c hc');·simp only[Ph] at hc';rw[hc',hc];omega
   ·rw[ie,h2];simp only[numOf,PQ,List.foldl_nil,hc,Oo,OO];omega
   ·match hq:Oi (u/10),h3 with
    |a::l,_=>rw[hq] at h4;simpa using h4 (by omega)
theorem rH{D:List UInt8}(h:et D)(hne:D≠[])(h0:D.getD 0 0≠48∨D.length=1):Oi (numOf D)=D:=by
 have key:∀(n:Nat) (D:List UInt8),D.length=n+1->et D->(D.getD 0 0≠48∨D.length=1)->Oi (numOf D)=D:=by
  intro n;induction n with
  |zero=>
   intro D hl hd _;match D,hl with
   | [c],_=>
    have hc:=hd c (by simp);(have e:numOf [c]=c.toNat-48:=by simp[numOf]);rw[e,Oi,dif_pos (by omega),show 48+(c.toNat-48)=c.toNat by omega,UInt8.ofNat_toNat]
  |succ n ih=>
   intro D hl hd h0;(have hne:D≠[]:=by rintro rfl;simp at hl);have e:=Pf hne;generalize hP:D.dropLast=P at e;generalize D.getLast hne=c at e;(have hPl:P.length=n+1:=by rw[<- hP,PO];omega);have hdP:et P:=fun x hx=>hd x (by rw[<- e];simp[hx]);have hc:=hd c (by rw[<- e];simp);have hg:P.getD 0 0=D.getD 0 0:=by
    rw[<- e];match P,hPl with
    |a::l,_=>simp
   have h0D:D.getD 0 0≠48:=by
    (rcases h0 with h|h;·exact h);·omega
   (have h0P:P.getD 0 0≠48:=by rw[hg];exact h0D);have hi:=ih P hPl hdP (.inl h0P);have hpos:0<numOf P:=by
    by_cases hz:numOf P=0
    ·exfalso;rw[hz] at hi;(have h5:Oi 0=[48]:=by rw[Oi];rfl);rw[h5] at hi;rw[<- hi] at h0P;exact h0P rfl
    ·omega
   have hv:numOf D=numOf P*10+(c.toNat-48):=by
    rw[<- e,ie];simp[numOf]
   rw[hv,Oi,dif_neg (by omega),show (numOf P*10+(c.toNat-48))/10=numOf P by omega,show (numOf P*10+(c.toNat-48))%10=c.toNat-48 by omega,hi,
    show 48+(c.toNat-48)=c.toNat by omega,UInt8.ofNat_toNat,e]
 match D,hne with
 |a::l,_=>exact key l.length (a::l) (by simp) h h0
theorem x8(l:List UInt8):eu (45::l) [45]=true/\ay (45::l) [45]=l:=by
 have h:eu (45::l) [45]=true:=by simp[eu]
 refine⟨h,?_⟩;unfold ay;rw[if_pos h];rfl
theorem Ai{D:List UInt8}(h:et D):eu D [45]=false/\ay D [45]=D:=by
 have h1:eu D [45]=false:=by
  rw[T1];intro hp;unfold eu at hp;simp only[N9,decide_eq_true_eq,beq_iff_eq] at hp;match D,hp.2 with
  |c::l,e=>
   simp at e;have:=h c (by simp);rw[e] at this;exact absurd this.1 (by decide)
  | [],e=>simp at e
 refine⟨h1,?_⟩;unfold ay;rw[if_neg (by rw[h1];decide)]
theorem rI{s D:List UInt8}(ht:ay s [45]=D)(h:et D)(hne:D≠[])(h0:D.getD 0 0≠48∨s=[48]):chk s=if 2000<D.length then 6 else 0:=by
 by_cases h48:s=[48]
 ·rw[h48] at ht ⊢;have:D=[48]:=by rw[<- ht];decide
  rw[this];decide
 ·refine(jF h48 (by
   rw[ht];rintro(h1|h1);·exact hne h1
   ·(rcases h0 with h0|h0;·exact h0 h1);·exact h48 h0) (by
   rw[ht,Ob];intro c hc;have:=h c hc;simp[gU];omega)).trans ?_
  rw[ht]
theorem fC(n:Int):eV n=((Oi n.natAbs).length:Int):=by
 unfold eV ON;rw[if_neg (by omega)];simp
theorem Aj(n:Int):chk (ON n)=(if 2000<eV n then 6 else 0)/\bK (ON n)=n:=by
 obtain⟨d1,d2,d3,d4⟩:=mu n.natAbs;by_cases hn:n<0
 ·have e:ON n=45::Oi n.natAbs:=by unfold ON;rw[if_pos hn]
  obtain⟨p1,p2⟩:=x8 (Oi n.natAbs);rw[e,rI p2 d1 d3 (.inl (d4 (by omega))),fC];refine⟨?_,?_⟩
  ·by_cases h:2000<(Oi n.natAbs).length
   ·rw[if_pos h,if_pos (by omega)]
   ·rw[if_neg h,if_neg (by omega)]
  ·unfold bK;rw[if_pos p1,p2,d2];omega
 ·have e:ON n=Oi n.natAbs:=by
   unfold ON;rw[if_neg hn];congr 1;omega
  obtain⟨p1,p2⟩:=Ai d1;have h0:(Oi n.natAbs).getD 0 0≠48∨Oi n.natAbs=[48]:=by
   by_cases hz:n.natAbs=0
   ·right;rw[hz,Oi];rfl
   ·exact .inl (d4 (by omega))
  rw[e,rI p2 d1 d3 h0,fC];refine⟨?_,?_⟩
  ·by_cases h:2000<(Oi n.natAbs).length
   ·rw[if_pos h,if_pos (by omega)]
   ·rw[if_neg h,if_neg (by omega)]
  ·unfold bK;rw[if_neg (by rw[p1];decide),p2,d2];omega
theorem uG{s:List UInt8}(h:chk s=0):ON (bK s)=s/\eV (bK s)<=2000:=by
 obtain⟨c1,c2,c3,c4⟩:=Gf h;have hne:ay s [45]≠[]:=by intro e;rw[e] at c2;simp at c2
 by_cases h48:s=[48]
 ·subst h48;have e:bK [48]=0:=by decide
  rw[e];refine⟨by simp[ON,Oi],by rw[uy];decide⟩
 ·have h0:=c4 h48;have hd:=rH c1 hne (.inl h0);have hpos:0<numOf (ay s [45]):=by
   by_cases hz:numOf (ay s [45])=0
   ·exfalso;rw[hz] at hd;(have h5:Oi 0=[48]:=by rw[Oi];rfl);rw[h5] at hd;rw[<- hd] at h0;exact h0 rfl
   ·omega
  have habs:(bK s).natAbs=numOf (ay s [45]):=by unfold bK;split<;>omega
  refine⟨?_,by rw[fC,habs,hd];omega⟩;unfold bK ON;by_cases hp:eu s [45]=true
  ·rw[if_pos hp,if_pos (by omega),show (-(numOf (ay s [45]):Int)).natAbs=numOf (ay s [45]) by omega,hd];unfold ay;rw[if_pos hp];unfold eu at hp;simp only[N9,decide_eq_true_eq,beq_iff_eq] at hp;match s,hp.2 with
   |c::l,e=>simp at e;rw[e];rfl
   | [],e=>simp at e
  ·rw[if_neg hp,if_neg (by omega),Od,hd];unfold ay;rw[if_neg hp]
theorem Jk{n:Int}{k:Nat}(hk:0<k)(h:n.natAbs<10^k):eV n<=k:=by
 have:=jW h hk;rw[fC];omega
theorem x9{s:List UInt8}(h:chk s=0):nu s:=by
 obtain⟨d1,d2,d3,d4⟩:=Gf h;unfold nu;have:s.length<=(ay s [45]).length+1:=by
  unfold ay;split;·rw[Om,show ([45]:List UInt8).length=1 from rfl];omega
  ·omega
 omega
end Go.Cm
end
section
namespace Go.Proofs.YtppnhclgaeodoaaGreatDoor
open Go Go.Cm Go.Proofs Go.ChangeShapes Go.WideShapes Go.ChangeAt Go.RowKit Go.Deep Go.Joins Tryz
def nx:DataW Unit->Array Value
 | .agg l=>(l.map fun x=>match x with
  | .lit (.int k n)=>Value.int k n
  |_=>Value.bool false).toArray
 |_=> #[]
noncomputable def Ak(h:Array Obj)(name:String)(cs:Array Value):Array Obj:=h.modify ((prog.globalNamed name).getD 0) fun o=>match o with
 | .cells _ t f=> .cells cs t f
 |o=>o
noncomputable def Gy:Nat:=(World.holding prog default ⟨#[],#[],[]⟩).heap.size
noncomputable def rJ(os:Os):World:=
 let w0:=World.holding prog os ⟨#[.cells #[.string {data:= #[118,97,108,117,101,32,111,117,116,32,111,102,32,114,97,110,103,101]}] 269,.cells #[.string {data:= #[105,110,118,97,108,105,100,32,115,121,110,116,97,120]}] 269],#[],[]⟩
 {w0 with heap:=(Ak (Ak (Ak (Ak (Ak (Ak (Ak w0.heap "strconv.ErrRange" #[.iface 267 (.pointer (some ⟨Gy+0,0,none⟩))]) "strconv.ErrSyntax" #[.iface 267 (.pointer (some ⟨Gy+1,0,none⟩))]) "math/bits.deBruijn32tab" (nx Rows.laid_math_bits_deBruijn32tab)) "math/bits.deBruijn64tab" (nx Rows.laid_math_bits_deBruijn64tab)) "internal/strconv.uint64pow10" (nx Rows.laid_internal_strconv_uint64pow10)) "croupier/exact.weak" (nx Rows.laid_croupier_exact_weak)) "croupier/exact.strict" (nx Rows.laid_croupier_exact_strict))}
theorem Gz:(Rows.laid_internal_strconv_uint64pow10:DataW Unit)=Uc .u64 SP:=by kernel_rfl
noncomputable def rK:Nat:=(prog.globalNamed "internal/strconv.uint64pow10").getD 0
noncomputable def BR:Nat:=((prog.globals[rK]?).map (·.type)).getD 0
noncomputable def GA:Nat:=match prog.underlying BR with
 |some (.array _ e)=>e
 |_=>0
theorem KE:prog.globalNamed "internal/strconv.uint64pow10"=some rK:=by kernel_rfl
theorem MN:(prog.globals[rK]?).map (·.type)=some BR:=by kernel_rfl
theorem MO:prog.underlying BR=some (.array 20 GA):=by kernel_rfl
theorem MP:prog.underlying GA=some (.int .u64):=by kernel_rfl
theorem MQ:prog.cellsOf GA=1:=by kernel_rfl
theorem MR:prog.cellsOf BR=20:=by kernel_rfl
theorem Jl{l:List (String×DataW Unit)}{W:World}(h:laidMet prog (("internal/strconv.uint64pow10",Rows.laid_internal_strconv_uint64pow10)::l) W):∀w,(ic W).On w->TN prog w "internal/strconv.uint64pow10" .u64 SP:=by
 intro w hw;rw[Gz] at h;have ht:=S9 KE MN MO MP MQ MR h;unfold TN World.var? at ht ⊢;rw[KE] at ht ⊢;simp only[Option.bind_some] at ht ⊢;by_cases hlt:rK<W.heap.size;·have he:w.heap[rK]? =W.heap[rK]? :=hw.2 rK hlt;rw[he];exact ht
 ·rw[Ry (by omega)] at ht;cases ht
theorem GB:(Rows.laid_croupier_exact_strict:DataW Unit)=Uc .i64 [2,1]:=by kernel_rfl
noncomputable def BS:Nat:=((prog.globals[0]?).map (·.type)).getD 0
noncomputable def GC:Nat:=match prog.underlying BS with
 |some (.array _ e)=>e
 |_=>0
theorem KF:prog.globalNamed "croupier/exact.strict"=some 0:=by kernel_rfl
theorem MS:(prog.globals[0]?).map (·.type)=some BS:=by kernel_rfl
theorem MT:prog.underlying BS=some (.array 2 GC):=by kernel_rfl
theorem MU:prog.underlying GC=some (.int .i64):=by kernel_rfl
theorem MV:prog.cellsOf GC=1:=by kernel_rfl
theorem MW:prog.cellsOf BS=2:=by kernel_rfl
theorem Jm{l:List (String×DataW Unit)}{W:World}(h:laidMet prog (("croupier/exact.strict",Rows.laid_croupier_exact_strict)::l) W):∀w,(ic W).On w->∀j (hj:j<([2,1]:List Int).length),w.cell? ⟨0,j,none⟩=some (.int .i64 ([2,1]:List Int)[j]):=by
 intro w hw;rw[GB] at h;have ht:=S9 KF MS MT MU MV MW h;intro j hj;have hc:=ht.cell KF j (by simpa using hj);have hlt:(0:Nat)<W.heap.size:=by
  unfold World.cell? at hc;rcases Ru 0 W.heap.size with h0|h0;·exact h0
  ·rw[Ry h0] at hc;cases hc
 have he:w.heap[0]? =W.heap[0]? :=hw.2 0 hlt;refine(World.cell?_of_block (a:=⟨0,j,none⟩) he).trans (hc.trans ?_);simp[sh,AI hj]
theorem GD:(Rows.laid_croupier_exact_weak:DataW Unit)=Uc .i64 [4,3]:=by kernel_rfl
noncomputable def BU:Nat:=((prog.globals[1]?).map (·.type)).getD 0
noncomputable def GE:Nat:=match prog.underlying BU with
 |some (.array _ e)=>e
 |_=>0
theorem KG:prog.globalNamed "croupier/exact.weak"=some 1:=by kernel_rfl
theorem MX:(prog.globals[1]?).map (·.type)=some BU:=by kernel_rfl
theorem MY:prog.underlying BU=some (.array 2 GE):=by kernel_rfl
theorem MZ:prog.underlying GE=some (.int .i64):=by kernel_rfl
theorem M0:prog.cellsOf GE=1:=by kernel_rfl
theorem M1:prog.cellsOf BU=2:=by kernel_rfl
theorem Jn{l:List (String×DataW Unit)}{W:World}(h:laidMet prog (("croupier/exact.weak",Rows.laid_croupier_exact_weak)::l) W):∀w,(ic W).On w->∀j (hj:j<([4,3]:List Int).length),w.cell? ⟨1,j,none⟩=some (.int .i64 ([4,3]:List Int)[j]):=by
 intro w hw;rw[GD] at h;have ht:=S9 KG MX MY MZ M0 M1 h;intro j hj;have hc:=ht.cell KG j (by simpa using hj);have hlt:(1:Nat)<W.heap.size:=by
  unfold World.cell? at hc;rcases Ru 1 W.heap.size with h0|h0;·exact h0
  ·rw[Ry h0] at hc;cases hc
 have he:w.heap[1]? =W.heap[1]? :=hw.2 1 hlt;refine(World.cell?_of_block (a:=⟨1,j,none⟩) he).trans (hc.trans ?_);simp[sh,AI hj]
theorem GF{l m:List (String×DataW Unit)}{W:World}(h:laidMet prog (("croupier/exact.strict",Rows.laid_croupier_exact_strict)::l) W)(h2:laidMet prog (("croupier/exact.weak",Rows.laid_croupier_exact_weak)::m) W):BE (ic W) sgT:=by
 intro g xs hg w hw;unfold sgT at hg;simp only[get?] at hg;split at hg;·rename_i e;subst e;cases hg;exact Jm h w hw
 ·split at hg;·rename_i e;subst e;cases hg;exact Jn h2 w hw
  ·cases hg
theorem Jo{W:World}(h:W.ShapedOpen prog):MM (ic W):=by
 obtain⟨m,hm⟩:=Go.Proofs.cell_of_shapedOpen_int (g:=2) (t:=3) (zero:= #[.int .i64 0]) (k:= .i64) h (by decide+kernel) (by kernel_rfl) rfl (by kernel_rfl) (by kernel_rfl) (by kernel_rfl);intro w hw;have hlt:(2:Nat)<W.heap.size:=by
  unfold World.cell? at hm;rcases Ru 2 W.heap.size with h0|h0;·exact h0
  ·rw[Ry h0] at hm;cases hm
 have he:w.heap[2]? =W.heap[2]? :=hw.2 2 hlt;exact⟨m,(World.cell?_of_block (a:=⟨2,0,none⟩) he).trans hm⟩
end Go.Proofs.YtppnhclgaeodoaaGreatDoor
end
section
namespace Go.Cm
open Go.Proofs
structure OKT (s:List UInt8) (v:Int):Prop where
 c:chk s=0
 v:bK s=v
def Bnd(v:Int)(k:Nat):Prop:=v.natAbs<10^k
theorem Bnd.add{a b:Int}{k:Nat}(ha:Bnd a k)(hb:Bnd b k):Bnd (a+b) (k+1):=by
 unfold Bnd at*;rw[Rw];omega
theorem Bnd.sub{a b:Int}{k:Nat}(ha:Bnd a k)(hb:Bnd b k):Bnd (a-b) (k+1):=by
 unfold Bnd at*;rw[Rw];omega
theorem Bnd.mul{a b:Int}{k l:Nat}(ha:Bnd a k)(hb:Bnd b l):Bnd (a*b) (k+l):=by
 unfold Bnd at*;rw[RL,Nat.pow_add];exact Nat.mul_lt_mul_of_lt_of_le ha (QN hb) (Nat.pow_pos (by decide))
theorem Bnd.mono{a:Int}{k l:Nat}(ha:Bnd a k)(h:k<=l):Bnd a l:=OC ha (PA (by decide) h)
theorem OKT.short{s:List UInt8}{v:Int}(h:OKT s v):nu s:=x9 h.c
theorem OKT.eq{a b:List UInt8}{x y:Int}(ha:OKT a x)(hb:OKT b y):x=y↔a=b:=by
 constructor;·intro h;rw[<- (uG ha.c).1,<- (uG hb.c).1,ha.v,hb.v,h]
 ·rintro rfl;rw[<- ha.v,<- hb.v]
theorem I64.w{a:Int}(h:I64 a):IN.wrap a=a:=wi h.1 (by have:=h.2;omega)
end Go.Cm
end
section
namespace Go.Cm.D
open Go.Cm
def LB:Int:=10000
def valL:List Int->Int
 | []=>0
 |x::r=>x+LB*valL r
def Lim(l:List Int):Prop:=∀x∈l,0<=x/\x<LB
def Cano(l:List Int):Prop:=Lim l/\l.getLastD 1≠0
theorem valL_append(a b:List Int):valL (a++b)=valL a+LB^a.length*valL b:=by
 induction a with
 |nil=>simp[valL]
 |cons x r ih=>simp only[OS,valL,ih,Oo,OB];rw[OH,Int.add_assoc,OP (LB^r.length) LB,Ow]
theorem valL_one(x:Int):valL [x]=x:=by simp[valL]
theorem Lim.append{a b:List Int}(ha:Lim a)(hb:Lim b):Lim (a++b):=fun x hx=>(Oq.1 hx).elim (ha x) (hb x)
theorem Lim.one{x:Int}(h0:0<=x)(h1:x<LB):Lim [x]:=fun y hy=>by simp at hy;subst hy;exact⟨h0,h1⟩
theorem valL_nonneg{l:List Int}(h:Lim l):0<=valL l:=by
 induction l with
 |nil=>simp[valL]
 |cons x r ih=>
  have h1:=h x (by simp);have h2:=ih fun y hy=>h y (by simp[hy]);have:0<=LB*valL r:=Pz (by decide) h2;simp only[valL];omega
theorem valL_lt{l:List Int}(h:Lim l):valL l<LB^l.length:=by
 induction l with
 |nil=>simp[valL]
 |cons x r ih=>
  have h1:=h x (by simp);have h2:=ih fun y hy=>h y (by simp[hy]);simp only[valL,Oo,OB];have h3:LB*valL r<=LB*(LB^r.length-1):=Oe (by omega) (by decide);rw[QY,Qe] at h3;rw[OP (LB^r.length)];omega
theorem valL_inj:∀{a b:List Int},Lim a->Lim b->a.length=b.length->valL a=valL b->a=b
 | [],[],_,_,_,_=>rfl
 |x::r,y::s,ha,hb,hl,hv=>by
  have h1:=ha x (by simp);have h2:=hb y (by simp);simp only[valL] at hv;have hm:x%LB=y%LB:=by
   (have:(x+LB*valL r)%LB=(y+LB*valL s)%LB:=by rw[hv]);rwa [P3,P3] at this
  rw[PW h1.1 h1.2,PW h2.1 h2.2] at hm;subst hm;have hv2:valL r=valL s:=R3 (a:=LB) (by decide) (by omega);rw[valL_inj (fun z hz=>ha z (by simp[hz])) (fun z hz=>hb z (by simp[hz])) (by simpa using hl) hv2]
 | [],_::_,_,_,hl,_=>by simp at hl
 |_::_,[],_,_,hl,_=>by simp at hl
theorem getLastD_append{a b:List Int}{d:Int}(hb:b≠[]):(a++b).getLastD d=b.getLastD d:=by
 cases b with
 |nil=>exact absurd rfl hb
 |cons x r=>simp[Ou,TE,OI hb]
theorem valL_ge{l:List Int}(h:Cano l)(hne:l≠[]):LB^(l.length-1)<=valL l:=by
 obtain⟨h1,h2⟩:=h;have hl:=Pf hne;have hlast:l.getLastD 1=l.getLast hne:=by rw[Ou,OI hne];rfl
 rw[hlast] at h2;have h3:=h1 (l.getLast hne) (SB hne);have h4:Lim l.dropLast:=fun x hx=>h1 x (Qm l hx);have h5:=valL_nonneg h4;have h6:valL l=valL l.dropLast+LB^l.dropLast.length*l.getLast hne:=by
  conv=>lhs;rw[<- hl]
  rw[valL_append,valL_one]
 rw[h6,PO];have h7:0<=LB^(l.length-1):=RJ (by decide);have h8:LB^(l.length-1)*1<=LB^(l.length-1)*l.getLast hne:=Oe (by omega) h7;omega
theorem pow_mono{a b:Nat}(h:a<=b):LB^a<=LB^b:=by
 induction h with
 |refl=>exact TF _
 | @step m h ih=>
  rw[OB];have:0<=LB^m:=RJ (show (0:Int)<=LB by decide);have h2:LB^m*1<=LB^m*LB:=Oe (by decide) this;omega
theorem Cano.eq{a b:List Int}(ha:Cano a)(hb:Cano b)(h:valL a=valL b):a=b:=by
 have key:∀{a b:List Int},Cano a->Cano b->valL a=valL b-> ¬a.length<b.length:=by
  intro a b ha hb h hlt;have hne:b≠[]:=by intro e;subst e;simp at hlt
  have h1:=valL_lt ha.1;have h2:=valL_ge hb hne;have h3:=pow_mono (show a.length<=b.length-1 by omega);omega
 exact valL_inj ha.1 hb.1 (by have:=key ha hb h;have:=key hb ha h.symm;omega) h
def limbs(n:Nat):List Int:=if h:n=0 then [] else ((n%10000:Nat):Int)::limbs (n/10000)
termination_by n
decreasing_by omega
theorem limbs_val(n:Nat):valL (limbs n)=n:=by
 induction n using limbs.induct with
 |case1=>simp[limbs,valL]
 |case2 n h ih=>
  rw[limbs,dif_neg h,valL,ih];unfold LB;omega
theorem limbs_nil{n:Nat}:limbs n=[]↔n=0:=by
 rw[limbs];split;·simp[*]
 ·simp[*]
theorem limbs_can(n:Nat):Cano (limbs n):=by
 induction n using limbs.induct with
 |case1=>simp[limbs,Cano,Lim]
 |case2 n h ih=>
  rw[limbs,dif_neg h];refine⟨fun x hx=>?_,?_⟩
  ·(rcases IS.1 hx with rfl|hx;·unfold LB;omega);·exact ih.1 x hx
  ·by_cases e:limbs (n/10000)=[]
   ·have:=limbs_nil.1 e;rw[e];simp;omega
   ·have:=getLastD_append (a:=[((n%10000:Nat):Int)]) (d:=1) e;rw[Sp] at this;rw[this];exact ih.2
theorem Cano.limbs{a:List Int}(h:Cano a){n:Nat}(hv:valL a=n):a=limbs n:=h.eq (limbs_can n) (by rw[hv,limbs_val])
theorem limbs_len{n k:Nat}(h:(n:Int)<LB^k):(limbs n).length<=k:=by
 by_cases e:limbs n=[]
 ·simp[e]
 ·have h1:=valL_ge (limbs_can n) e;rw[limbs_val] at h1;by_cases hk:(limbs n).length<=k;·exact hk
  ·have:=pow_mono (show k<=(limbs n).length-1 by omega);omega
theorem take_succ_val{l:List Int}{k:Nat}(h:k<l.length):valL (l.take (k+1))=valL (l.take k)+LB^k*l.getD k 0:=by
 rw[S6,valL_append];simp only[Of,Pq (QN h),AI h,SY,valL_one,sh,OV]
theorem Lim.getD{l:List Int}(h:Lim l)(k:Nat):0<=l.getD k 0/\l.getD k 0<LB:=by
 rw[sh];by_cases hk:k<l.length;·rw[AI hk];exact h _ (OE hk)
 ·rw[OA (by omega)];exact⟨by simp,by simp;decide⟩
theorem take_val(l:List Int)(k:Nat):valL (l.take (k+1))=valL (l.take k)+LB^k*l.getD k 0:=by
 by_cases h:k<l.length
 ·exact take_succ_val h
 ·rw[Oj (by omega),Oj (by omega),sh,OA (by omega)];simp
theorem cano_of_ge{l:List Int}(h:Lim l)(hv:l≠[]->LB^(l.length-1)<=valL l):Cano l:=by
 refine⟨h,fun h0=>?_⟩;by_cases hne:l=[];·subst hne;simp at h0
 ·have hl:=Pf hne;have hlast:l.getLastD 1=l.getLast hne:=by rw[Ou,OI hne];rfl
  rw[hlast] at h0;have h4:Lim l.dropLast:=fun x hx=>h x (Qm l hx);have h6:valL l=valL l.dropLast+LB^l.dropLast.length*l.getLast hne:=by
   conv=>lhs;rw[<- hl]
   rw[valL_append,valL_one]
  rw[h0,Sk,RX] at h6;have h7:=valL_lt h4;rw[PO] at h7;have:=hv hne;omega
theorem tdiv_nn{n:Int}(h:0<=n):n.tdiv 10000=n/LB/\n.tmod 10000=n%LB:=
 ⟨Qw h,Q4 h⟩
theorem valL_pos{l:List Int}(h:Cano l):0<valL l↔l≠[]:=by
 constructor;·rintro h1 rfl;simp[valL] at h1
 ·intro hne;have h1:=valL_ge h hne;have h2:0<LB^(l.length-1):=QP (by decide);omega
theorem last_eq{l:List Int}(h:0<l.length):nth (.int .i64) l ((l.length:Int)-1)=l.getLastD 1:=by
 have hne:l≠[]:=by intro e;subst e;simp at h
 have e:((l.length:Int)-1).toNat=l.length-1:=by omega
 show l.getD _ _=_;rw[e,sh,AI (by omega),Ou,Qc,AI (by omega)];rfl
theorem drop_zero_val{l:List Int}(hl:Lim l)(h:0<l.length)(h0:l.getLastD 1=0):valL l.dropLast=valL l/\Lim l.dropLast:=by
 have hne:l≠[]:=by intro e;subst e;simp at h
 have hd:=Pf hne;have hlast:l.getLastD 1=l.getLast hne:=by rw[Ou,OI hne];rfl
 refine⟨?_,fun x hx=>hl x (Qm l hx)⟩;conv=>rhs;rw[<- hd]
 rw[valL_append,valL_one,<- hlast,h0];omega
theorem take_last{l:List Int}(h:0<l.length):OM (IN.wrap ((l.length:Int)-1)).toNat l=l.dropLast∨ ¬(l.length:Int)<9223372036854775808:=by
 by_cases hb:(l.length:Int)<9223372036854775808
 ·left;rw[wo];have e:((l.length:Int)-1).toNat=l.length-1:=by omega
  rw[e,Sq]
 ·exact .inr hb
theorem whole_round{m z:List Int}(g1:Lim z)(g2:valL z=valL m)(g3:z.length<=m.length)(hz:(0:Int)<(z.length:Int))(hb:z.length<1000000000000)(h0:nth (.int .i64) z (IN.wrap ((z.length:Int)-1))=0):
  Lim (OX (Px 0) (OM (IN.wrap ((z.length:Int)-1)).toNat z))/\valL (OX (Px 0) (OM (IN.wrap ((z.length:Int)-1)).toNat z))=valL m/\
   (OX (Px 0) (OM (IN.wrap ((z.length:Int)-1)).toNat z)).length<=m.length/\(OX (Px 0) (OM (IN.wrap ((z.length:Int)-1)).toNat z)).length<z.length:=by
 have hz':0<z.length:=by omega
 have e:=(take_last hz').resolve_right (by omega);rw[wo,last_eq hz'] at h0;obtain⟨d1,d2⟩:=drop_zero_val g1 hz' h0;rw[show Px 0=0 from rfl,Oy,e];exact⟨d2,by rw[d1,g2],by simp;omega,by simp;omega⟩
theorem cmp_len{a b:List Int}(ha:Cano a)(hb:Cano b)(h:a.length<b.length):valL a<valL b:=by
 have hne:b≠[]:=by intro e;subst e;simp at h
 have h1:=valL_lt ha.1;have h2:=valL_ge hb hne;have h3:=pow_mono (show a.length<=b.length-1 by omega);omega
theorem cmp_at{a b:List Int}(ha:Lim a)(hb:Lim b)(hl:a.length=b.length){k:Nat}(hk:k<a.length)(h:a.drop (k+1)=b.drop (k+1))(hlt:a.getD k 0<b.getD k 0):valL a<valL b:=by
 have e1:valL a=valL (a.take (k+1))+LB^(k+1)*valL (a.drop (k+1)):=by
  conv=>lhs;rw[<- O5 (k+1) a]
  rw[valL_append,Of,Pq (by omega)]
 have e2:valL b=valL (b.take (k+1))+LB^(k+1)*valL (b.drop (k+1)):=by
  conv=>lhs;rw[<- O5 (k+1) b]
  rw[valL_append,Of,Pq (by omega)]
 rw[e1,e2,h,take_val,take_val];have h1:=valL_lt (l:=a.take k) (fun x hx=>ha x (Pi hx));have h2:=valL_nonneg (l:=b.take k) (fun x hx=>hb x (Pi hx));rw[Of,Pq (by omega)] at h1;have h3:LB^k*(a.getD k 0+1)<=LB^k*b.getD k 0:=Oe (by omega) (RJ (by decide));rw[OH,Qe] at h3;omega
def padL:Nat->Nat->List Int
 |_,0=>[]
 |v,k+1=>((v%10000:Nat):Int)::padL (v/10000) k
theorem padL_len:∀(v k:Nat),(padL v k).length=k
 |_,0=>rfl
 |v,k+1=>by simp[padL,padL_len]
theorem padL_lim:∀(v k:Nat),Lim (padL v k)
 |_,0=>fun x hx=>by simp[padL] at hx
 |v,k+1=>fun x hx=>by
  rcases IS.1 hx with rfl|hx;·unfold LB;omega
  ·exact padL_lim _ k x hx
theorem padL_val:∀(v k:Nat),(v:Int)<LB^k->valL (padL v k)=v
 |v,0,h=>by
  have:v=0:=by simp at h;omega
  subst this;rfl
 |v,k+1,h=>by
  have:((v/10000:Nat):Int)<LB^k:=by
   rw[OB] at h;(have e:((v/10000:Nat):Int)=(v:Int)/LB:=by unfold LB;omega);rw[e];exact Pg (by decide) h
  rw[padL,valL,padL_val _ k this];unfold LB;omega
theorem Lim.pad{l:List Int}(h:Lim l){v k:Nat}(hl:l.length=k)(hv:valL l=v):l=padL v k:=
 valL_inj h (padL_lim v k) (by rw[hl,padL_len]) (by rw[hv,padL_val];rw[<- hv,<- hl];exact valL_lt h)
theorem len_le{a b:List Int}(ha:Cano a)(hb:Cano b)(h:valL a<=valL b):a.length<=b.length:=by
 by_cases hl:b.length<a.length
 ·have:=cmp_len hb ha hl;omega
 ·omega
theorem minus_round{m o out:List Int}{k:Nat}{b n b':Int}(g2:out.length=k)(g3:Lim out)(g6:valL out+valL (o.take k)=valL (m.take k)+LB^k*b)(hn:0<=n)(hn2:n<LB)(he:n=m.getD k 0-b-o.getD k 0+LB*b'):
  Lim (out++ [n])/\valL (out++ [n])+valL (o.take (k+1))=valL (m.take (k+1))+LB^(k+1)*b':=by
 refine⟨g3.append (Lim.one hn hn2),?_⟩;rw[valL_append,valL_one,g2,take_val,take_val,OB];have h1:LB^k*n=LB^k*m.getD k 0-LB^k*b-LB^k*o.getD k 0+LB^k*LB*b':=by
  rw[he,OH,QY,QY,Ow]
 omega
theorem minus_end{m o out:List Int}{b:Int}(hm:Cano m)(ho:Cano o)(hle:valL o<=valL m)(g2:out.length=m.length)(g3:Lim out)(g4:0<=b)(g6:valL out+valL (o.take m.length)=valL m+LB^m.length*b):out=padL (valL m-valL o).toNat m.length:=by
 rw[Oj (len_le ho hm hle)] at g6;have h1:=valL_lt g3;rw[g2] at h1;have h2:0<LB^m.length:=QP (by decide);have hb:b=0:=by
  by_cases hb:b=0
  ·exact hb
  ·have:LB^m.length*1<=LB^m.length*b:=Oe (by omega) (by omega);omega
 subst hb;exact g3.pad g2 (by omega)
theorem plus_len{m o:List Int}(hm:Cano m)(ho:Cano o):(limbs (valL m+valL o).toNat).length<=m.length+o.length:=by
 have h1:=valL_lt hm.1;have h2:=valL_lt ho.1;have h3:=valL_nonneg hm.1;have h4:=valL_nonneg ho.1;have hpos:∀k,1<=LB^k:=fun k=>(QP (show (0:Int)<LB by decide):0<LB^k);by_cases e1:m=[];·subst e1;rw[show valL ([]:List Int)=0 from rfl,Sl];exact limbs_len (by rw[OL h4];simpa using h2)
 ·by_cases e2:o=[]
  ·subst e2;rw[show valL ([]:List Int)=0 from rfl,RX];exact limbs_len (by rw[OL h3];simpa using h1)
  ·have l1:=By.2 e1;have l2:=By.2 e2;refine limbs_len ?_;rw[OL (by omega)];have p1:=pow_mono (show m.length<=m.length+o.length-1 by omega);have p2:=pow_mono (show o.length<=m.length+o.length-1 by omega);have p3:LB^(m.length+o.length)=LB^(m.length+o.length-1)*LB:=by
    rw[<- OB];congr 1;omega
   have p4:=hpos (m.length+o.length-1);have p5:LB^(m.length+o.length-1)*2<=LB^(m.length+o.length-1)*LB:=Oe (by decide) (by omega);omega
theorem minus_val{m o:List Int}(hm:Cano m)(ho:Cano o)(hle:valL o<=valL m):valL (padL (valL m-valL o).toNat m.length)=valL m-valL o:=by
 have h1:=valL_lt hm.1;have h2:=valL_nonneg ho.1;rw[padL_val _ _ (by rw[OL (by omega)];omega),OL (by omega)]
theorem cmp_lens{m o:List Int}(hm:Cano m)(ho:Cano o)(h:bq (m.length:Int) (o.length:Int)≠0):bq (m.length:Int) (o.length:Int)=bq (valL m) (valL o):=by
 unfold bq at h ⊢;by_cases h1:m.length<o.length;·have:=cmp_len hm ho h1;rw[if_pos (by omega),if_pos this]
 ·by_cases h2:o.length<m.length
  ·have:=cmp_len ho hm h2;rw[if_neg (by omega),if_pos (by omega),if_neg (by omega),if_pos this]
  ·rw[if_neg (by omega),if_neg (by omega)] at h;exact absurd rfl h
theorem cmp_place{m o:List Int}(hm:Cano m)(ho:Cano o)(hl:m.length=o.length){k:Nat}(hk:k<m.length)(hd:m.drop (k+1)=o.drop (k+1))(h:bq (m.getD k 0) (o.getD k 0)≠0):bq (m.getD k 0) (o.getD k 0)=bq (valL m) (valL o):=by
 unfold bq at h ⊢;by_cases h1:m.getD k 0<o.getD k 0;·have:=cmp_at hm.1 ho.1 hl hk hd h1;rw[if_pos h1,if_pos this]
 ·by_cases h2:o.getD k 0<m.getD k 0
  ·have:=cmp_at ho.1 hm.1 hl.symm (by omega) hd.symm h2;rw[if_neg h1,if_pos h2,if_neg (by omega),if_pos this]
  ·rw[if_neg h1,if_neg h2] at h;exact absurd rfl h
theorem drop_step{m o:List Int}{k:Nat}(hl:m.length=o.length)(hk:k<m.length)(hd:m.drop (k+1)=o.drop (k+1))(h:m.getD k 0=o.getD k 0):m.drop k=o.drop k:=by
 rw[O0 hk,O0 (show k<o.length by omega),hd];rw[sh,sh,AI hk,AI (show k<o.length by omega)] at h;simp at h;rw[h]
theorem set_val:∀{l:List Int} {j:Nat} {v:Int},j<l.length->valL (l.set j v)=valL l+LB^j*(v-l.getD j 0)
 |x::r,0,v,_=>by simp[valL];omega
 |x::r,j+1,v,h=>by
  have ih:=set_val (l:=r) (j:=j) (v:=v) (by simpa using h);simp only[Ql,valL,ih,Rg,OB];rw[OH,OP (LB^j) LB,Ow];omega
 | [],_,_,h=>by simp at h
theorem set_lim{l:List Int}{j:Nat}{v:Int}(h:Lim l)(h0:0<=v)(h1:v<LB):Lim (l.set j v):=fun x hx=>by
 rcases R4 hx with h2|rfl;·exact h x h2
 ·exact⟨h0,h1⟩
theorem getD_set_ne{l:List Int}{j k:Nat}{v:Int}(h:j≠k):(l.set j v).getD k 0=l.getD k 0:=by
 rw[sh,sh,TG h]
theorem mul_bound{x y a c:Int}(hx:0<=x/\x<LB)(hy:0<=y/\y<LB)(ha:0<=a/\a<LB)(hc:0<=c/\c<LB):0<=x*y/\x*y+a+c<LB*LB/\x*y<=LB*LB:=by
 have h1:0<=x*y:=Pz hx.1 hy.1;have h2:x*y<=(LB-1)*(LB-1):=Int.mul_le_mul (by omega) (by omega) hy.1 (by decide);have hB:LB=10000:=rfl;have h3:(LB-1)*(LB-1)=99980001:=rfl;have h4:LB*LB=100000000:=rfl;omega
theorem mul_step{x y out:List Int}{i k:Nat}{c p n:Int}(hx:Lim x)(hy:Lim y)(h1:out.length=x.length+y.length)(h2:Lim out)(h3:0<=c)(h4:c<LB)(hi:i<x.length)(hk:k<y.length)
  (h6:valL out+LB^(i+k)*c=p+LB^i*(x.getD i 0*valL (y.take k))) (hz:∀j,i+y.length<=j->out.getD j 0=0) (hn:n=x.getD i 0*y.getD k 0+out.getD (i+k) 0+c):
  0<=n/\n<LB*LB/\(out.set (i+k) (n%LB)).length=x.length+y.length/\Lim (out.set (i+k) (n%LB))/\0<=n/LB/\n/LB<LB/\
   valL (out.set (i+k) (n%LB))+LB^(i+(k+1))*(n/LB)=p+LB^i*(x.getD i 0*valL (y.take (k+1)))/\∀j,i+y.length<=j->(out.set (i+k) (n%LB)).getD j 0=0:=by
 have hb:=mul_bound (hx.getD i) (hy.getD k) (h2.getD (i+k)) ⟨h3,h4⟩;have ha:=h2.getD (i+k);have hB:LB=10000:=rfl;have hn0:0<=n:=by omega
 have hn1:n<LB*LB:=by omega
 have hm:0<=n%LB/\n%LB<LB:=⟨Pk _ (by decide),Pe _ (by decide)⟩;refine⟨hn0,hn1,by simp[h1],set_lim h2 hm.1 hm.2,PF hn0 (by decide),Pg (by decide) hn1,?_,fun j hj=>?_⟩
 ·rw[set_val (by omega),take_val,<- QX,OB];have e1:n%LB+LB*(n/LB)=n:=Pt n LB;have e2:LB^(i+k)*(n%LB-out.getD (i+k) 0)+LB^(i+k)*LB*(n/LB)=LB^(i+k)*(n-out.getD (i+k) 0):=by
   rw[Ow,<- OH];congr 1;omega
  have e3:n-out.getD (i+k) 0=x.getD i 0*y.getD k 0+c:=by omega
  have e4:LB^(i+k)=LB^i*LB^k:=RK ..;have e5:LB^i*(x.getD i 0*(valL (y.take k)+LB^k*y.getD k 0))=LB^i*(x.getD i 0*valL (y.take k))+LB^(i+k)*(x.getD i 0*y.getD k 0):=by
   rw[OH,OH,e4];congr 1;rw[Ow,S7 (x.getD i 0)]
  rw[e3,OH] at e2;omega
 ·rw[getD_set_ne (by omega)];exact hz j hj
theorem mul_row{x y out:List Int}{i:Nat}{c p:Int}(h1:out.length=x.length+y.length)(h2:Lim out)(h3:0<=c)(h4:c<LB)(hi:i<x.length)(hp:p=valL (x.take i)*valL y)
  (h6:valL out+LB^(i+y.length)*c=p+LB^i*(x.getD i 0*valL y)) (hz:∀j,i+y.length<=j->out.getD j 0=0):
  (out.set (i+y.length) c).length=x.length+y.length/\Lim (out.set (i+y.length) c)/\valL (out.set (i+y.length) c)=valL (x.take (i+1))*valL y/\∀j,i+1+y.length<=j->(out.set (i+y.length) c).getD j 0=0:=by
 refine⟨by simp[h1],set_lim h2 h3 h4,?_,fun j hj=>?_⟩;·rw[set_val (by omega),hz _ (Oa _),take_val,Qn,Int.sub_zero,h6,hp,Ow]
 ·rw[getD_set_ne (by omega)];exact hz j (by omega)
theorem replicate_zero(n:Nat):Lim (N6 n 0)/\valL (N6 n 0)=0/\∀j,(N6 n (0:Int)).getD j 0=0:=by
 refine⟨fun x hx=>?_,?_,fun j=>?_⟩;·have:=R9 hx;subst this;exact⟨by decide,by decide⟩
 ·induction n with
  |zero=>rfl
  |succ n ih=>rw[Qd,valL,ih];rfl
 ·rw[sh,Qo];split<;>rfl
theorem hB:LB=10000:=rfl
theorem lbpos(k:Nat):0<LB^k:=QP (by decide)
theorem getD_none{l:List Int}{k:Nat}(h:l.length<=k):l.getD k 0=0:=by
 rw[sh,OA h];rfl
structure ya (x y:List Int) (i:Nat) (out:List Int):Prop where
 h1:i<=x.length
 h2:out.length=x.length+y.length
 h3:Lim out
 h4:valL out=valL (x.take i)*valL y
 h5:∀j,i+y.length<=j->out.getD j 0=0
theorem times_start{x y:List Int}:ya x y 0 (N6 (x.length+y.length) 0):=by
 obtain⟨r1,r2,r3⟩:=replicate_zero (x.length+y.length);exact⟨by simp,by simp,r1,by simp[r2,valL],fun j _=>r3 j⟩
def Wid(y:List Int):Prop:=(∀v∈y,0<=v/\v<=LB)/\valL y<=LB^y.length
theorem Wid.getD{y:List Int}(h:Wid y)(k:Nat):0<=y.getD k 0/\y.getD k 0<=LB:=by
 rw[sh];by_cases hk:k<y.length;·rw[AI hk];exact h.1 _ (OE hk)
 ·rw[OA (by omega)];exact⟨by simp,by simp;decide⟩
theorem times_fin{x y out:List Int}{i:Nat}(h:ya x y i out)(hi:¬i<x.length):valL out=valL x*valL y:=by
 have:i=x.length:=by have:=h.h1;omega
 rw[h.h4,this,OD]
end Go.Cm.D
end
section
namespace Go.Cm
open Go.Proofs
def RF(s:List UInt8):Prop:=chk s≠5
theorem wt{s:List UInt8}(h:RF s):et (ay s [45])/\0<(ay s [45]).length/\(s≠[48]->(ay s [45]).getD 0 0≠48):=by
 unfold RF chk at h;by_cases h0:s=[48]
 ·subst h0;refine⟨?_,by decide,fun h=>absurd rfl h⟩;intro c hc;have:ay [48] [45]=[48]:=by decide
  rw[this] at hc;simp at hc;subst hc;decide
 ·rw[if_neg h0] at h;by_cases h1:(ay s [45]).length=0∨(ay s [45]).getD 0 0=48;·rw[if_pos h1] at h;exact absurd rfl h
  ·(rw[if_neg h1] at h;by_cases h2:(ay s [45]).all gU=false;·rw[if_pos h2] at h;exact absurd rfl h);·simp only[not_or] at h1;refine⟨fun c hc=>?_,by omega,fun _=>h1.2⟩;(have h3:(ay s [45]).all gU=true:=by simpa using h2);have:=Ob.1 h3 c hc;simpa [gU] using this
theorem oC{s:List UInt8}(h:RF s):ON (bK s)=s:=by
 obtain⟨c1,c2,c4⟩:=wt h;have hne:ay s [45]≠[]:=by intro e;rw[e] at c2;simp at c2
 by_cases h48:s=[48]
 ·subst h48;have e:bK [48]=0:=by decide
  rw[e];simp[ON,Oi]
 ·have h0:=c4 h48;have hd:=rH c1 hne (.inl h0);have hpos:0<numOf (ay s [45]):=by
   by_cases hz:numOf (ay s [45])=0
   ·exfalso;rw[hz] at hd;(have h5:Oi 0=[48]:=by rw[Oi];rfl);rw[h5] at hd;rw[<- hd] at h0;exact h0 rfl
   ·omega
  unfold bK ON;by_cases hp:eu s [45]=true
  ·rw[if_pos hp,if_pos (by omega),show (-(numOf (ay s [45]):Int)).natAbs=numOf (ay s [45]) by omega,hd];unfold ay;rw[if_pos hp];unfold eu at hp;simp only[N9,decide_eq_true_eq,beq_iff_eq] at hp;match s,hp.2 with
   |c::l,e=>simp at e;rw[e];rfl
   | [],e=>simp at e
  ·rw[if_neg hp,if_neg (by omega),Od,hd];unfold ay;rw[if_neg hp]
theorem fD(v:Int):RF (ON v)/\bK (ON v)=v:=by
 have h:=Aj v;refine⟨?_,h.2⟩;unfold RF;rw[h.1];split<;>decide
theorem uH(s:List UInt8):(bK s).natAbs=numOf (ay s [45]):=by unfold bK;split<;>omega
namespace D
def ReadPhi(D:List UInt8)(r:Nat)(out:List Int):Prop:=
 out.length=r/\Lim out/\valL out=(numOf (D.drop (D.length-4*r)):Int)/\4*r<D.length+4
theorem read_start{D:List UInt8}:ReadPhi D 0 []:=by
 refine⟨rfl,fun x hx=>by simp at hx,?_,by omega⟩;simp[valL,numOf]
theorem NJ(r:Nat):(LB^r:Int)=((10^(4*r):Nat):Int):=by
 rw[Nat.pow_mul];show (10000:Int)^r=((10000^r:Nat):Int);rw[Sb];rfl
def part(D:List UInt8)(lo i:Nat):Int:=(numOf ((D.take i).drop lo):Int)
theorem Jp{D:List UInt8}(hd:et D)(lo i:Nat)(h:i<=lo+4):0<=part D lo i/\part D lo i<LB:=by
 have hdc:et ((D.take i).drop lo):=fun x hx=>hd x (Pi (PL hx));have h1:=kP hdc;have h2:10^((D.take i).drop lo).length<=10^4:=PA (by omega) (by rw[Om,Of];omega);unfold part;rw[hB];omega
theorem read_next{D:List UInt8}{r:Nat}{out:List Int}(hd:et D)(h:ReadPhi D r out)(hr:4*r<D.length):
  ReadPhi D (r+1) (out++ [part D (D.length-4*(r+1)) (D.length-4*r)]):=by
 obtain⟨h1,h2,h3,h4⟩:=h;have hb:=Jp hd (D.length-4*(r+1)) (D.length-4*r) (by omega);refine⟨by simp[h1],h2.append (Lim.one hb.1 hb.2),?_,by omega⟩;rw[valL_append,valL_one,h1,h3,NJ];unfold part;have e:D.drop (D.length-4*(r+1))=(D.take (D.length-4*r)).drop (D.length-4*(r+1))++D.drop (D.length-4*r):=by
  have e0:D.drop (D.length-4*(r+1))=(D.take (D.length-4*r)++D.drop (D.length-4*r)).drop (D.length-4*(r+1)):=by rw[O5]
  rw[e0,Rj,Of,Pq (by omega),show D.length-4*(r+1)-(D.length-4*r)=0 by omega,Oy]
 rw[e,ie,Om,show D.length-(D.length-4*r)=4*r by omega];rw[Int.natCast_add,Q7,RY,OP]
theorem read_end{s:List UInt8}{r:Nat}{out:List Int}(h:ReadPhi (ay s [45]) r out)(hr:¬4*r<(ay s [45]).length):(valL out).toNat=(bK s).natAbs/\Lim out:=by
 obtain⟨h1,h2,h3,h4⟩:=h;rw[show (ay s [45]).length-4*r=0 by omega,Oy] at h3;rw[h3,uH];exact⟨by simp,h2⟩
def dd(a:Nat):List UInt8:=if a=0 then [] else Oi a
def wr(d:List Int)(i j:Nat):Nat:=(valL (d.drop (i+1))).toNat*10^j+(d.getD i 0).toNat/10^(4-j)
def unit(j:Nat):Int:=if j<4 then ((10^(3-j):Nat):Int) else 0
end D
end Go.Cm
end
section
namespace Go.Cm
open Go.Proofs
namespace D
theorem dd_lt{a k:Nat}(h:a<10^k):(dd a).length<=k:=by
 unfold dd;by_cases h0:a=0;·rw[if_pos h0];simp
 ·rw[if_neg h0];have hk:0<k:=by
   (rcases Nat.eq_zero_or_pos k with e|e;·rw[e] at h;simp at h;omega);·exact e
  have:=Jk (n:=(a:Int)) (k:=k) hk (by simpa using h);rw[fC,QI] at this;omega
end D
end Go.Cm
end
section
namespace Go.Cm.D
open Go.Cm
theorem GG{l:List Int}(h:Lim l)(k:Nat):Lim (l.drop k):=fun x hx=>h x (PL hx)
theorem GH{l:List Int}(h:Cano l)(k:Nat):Cano (l.drop k):=by
 refine⟨GG h.1 k,?_⟩;by_cases hk:k<l.length
 ·have hne:l.drop k≠[]:=by
   intro e;have:=congrArg If e;rw[Om] at this;simp at this;omega
  have:=getLastD_append (a:=l.take k) (d:=1) hne;rw[O5] at this;rw[<- this];exact h.2
 ·rw[PB (by omega)];simp
theorem GI{l:List Int}{k:Nat}(h:k<l.length):valL (l.drop k)=l.getD k 0+LB*valL (l.drop (k+1)):=by
 rw[O0 h,sh,AI h];rfl
theorem En{l:List Int}(k:Nat):valL (l.drop k)=l.getD k 0+LB*valL (l.drop (k+1)):=by
 by_cases h:k<l.length
 ·exact GI h
 ·rw[PB (by omega),PB (by omega),getD_none (by omega)];simp[valL]
structure DivPhi (a b:List Int) (k:Nat) (q rest:List Int):Prop where
 hk:k<=q.length
 hq:q.length+b.length=a.length+1
 hl:Lim q
 hr:rest=limbs (valL (a.drop k)%valL b).toNat
 hv:valL (q.drop k)=valL (a.drop k)/valL b
theorem div_start{a b:List Int}{n:Nat}(ha:Cano a)(hb:Cano b)(hne:b≠[])(hn:b.length=n+1)(hlt:n<a.length):DivPhi a b (a.length-n) (N6 (a.length-n) 0) (a.drop (a.length-n)):=by
 have hbge:=valL_ge hb hne;rw[hn,Nat.add_sub_cancel] at hbge;have hac:=GH ha (a.length-n);have hal:=valL_lt hac.1;have ha0:=valL_nonneg hac.1;have hlen:(a.drop (a.length-n)).length=n:=by rw[Om];omega
 rw[hlen] at hal;refine⟨by simp,by simp;omega,(replicate_zero _).1,?_,?_⟩;·rw[PW ha0 (by omega)];exact hac.limbs (by omega)
 ·rw[PB (by simp),QU ha0 (by omega)];rfl
theorem Al{x y:Int}(h:0<y):0<=x%y/\x%y<y:=⟨Pk _ (by omega),Pe _ h⟩
def R1(a b:List Int)(i:Nat):Int:=a.getD i 0+LB*(valL (a.drop (i+1))%valL b)
theorem GJ{a b:List Int}{i:Nat}(ha:Lim a)(hb:0<valL b):0<=R1 a b i/\R1 a b i<LB*valL b/\R1 a b i%valL b=valL (a.drop i)%valL b/\valL (a.drop i)/valL b=LB*(valL (a.drop (i+1))/valL b)+R1 a b i/valL b:=by
 have hx:=ha.getD i;have hm:=Al (x:=valL (a.drop (i+1))) hb;have e:=hB;have e1:LB*(valL (a.drop (i+1))%valL b)<=LB*(valL b-1):=Oe (by omega) (by decide);have e0:0<=LB*(valL (a.drop (i+1))%valL b):=Pz (by decide) hm.1;rw[QY,Qe] at e1;have hd:=Pt (valL (a.drop (i+1))) (valL b);have hv:valL (a.drop i)=R1 a b i+valL b*(LB*(valL (a.drop (i+1))/valL b)):=by
  rw[En,R1];have:LB*valL (a.drop (i+1))=LB*(valL (a.drop (i+1))%valL b)+LB*(valL b*(valL (a.drop (i+1))/valL b)):=by rw[<- OH,hd]
  rw[this,S7 (valL b) LB];omega
 refine⟨by unfold R1;omega,by unfold R1;omega,?_,?_⟩;·rw[hv,P3]
 ·rw[hv,Int.add_mul_ediv_left _ _ (by omega)];omega
theorem div_next{a b q rest:List Int}{i:Nat}{d:Int}(ha:Lim a)(hb:Cano b)(hne:b≠[])(h:DivPhi a b (i+1) q rest)(hd:d=R1 a b i/valL b):
  0<=d/\d<LB/\DivPhi a b i (q.set i d) (limbs (R1 a b i%valL b).toNat):=by
 have hp:=(valL_pos hb).2 hne;obtain⟨f1,f2,f3,f4⟩:=GJ (i:=i) ha hp;obtain⟨g1,g2,g3,g4,g5⟩:=h;have d0:0<=d:=by rw[hd];exact PF f1 (by omega)
 have d1:d<LB:=by rw[hd];exact Pg hp f2
 refine⟨d0,d1,by simp;omega,by simpa using g2,set_lim g3 d0 d1,by rw[f3],?_⟩;have e1:(q.set i d).drop i=d::q.drop (i+1):=by
  rw[O0 (by simp;omega)];simp[List.drop_set]
 rw[e1,f4];simp only[valL];rw[g5,hd];omega
theorem div_end{a b q rest:List Int}(h:DivPhi a b 0 q rest):limbs (valL q).toNat=limbs (valL a/valL b).toNat/\rest=limbs (valL a%valL b).toNat:=by
 have h1:=h.hv;have h2:=h.hr;rw[Oy,Oy] at h1;rw[Oy] at h2;exact⟨by rw[h1],h2⟩
end Go.Cm.D
end
section
namespace Go.Cm
open Go.Proofs
def RS(n:Nat)(s:List UInt8):Prop:=RF s/\s.length<=n
theorem RS.cap{n:Nat}{s:List UInt8}(h:RS n s)(hn:n<1000000000000):RF s/\s.length<CAP:=⟨h.1,PP h.2 hn⟩
theorem BV{a k:Nat}(h:a<10^k):(Oi a).length<=k+1:=by
 by_cases h0:a=0
 ·subst h0;rw[Oi];simp
 ·have h1:=D.dd_lt h;unfold D.dd at h1;rw[if_neg h0] at h1;omega
namespace D
end D
def lm(s:List UInt8):List Int:=D.limbs (bK s).natAbs
end Go.Cm
end
section
namespace Go.Cm
open Go.Proofs
theorem GK{s:List UInt8}{n:Nat}(h:s.length<=n)(hn:n<70368744177664):nu s:=PP h hn
def S3k(s:List UInt8):Prop:=s.length<=3000
theorem S3k.short{s:List UInt8}(h:S3k s):nu s:=GK h (by decide)
theorem S3k.cap{s:List UInt8}(h:S3k s):s.length<CAP:=PP h (by decide)
abbrev NT:Ty:= .st (.pair WT WT)
abbrev ND:=(Bool×List Int)×(Bool×List Int)
def aG(q:Rat):ND:=(enc q.num,enc (q.den:Int))
def an(x:ND):Rat:=Ox (dec x.1) (dec x.2)
def NOK(x:ND):Prop:=aG (an x)=x
def lw(n:Int):Nat:=(enc n).2.length
def lq(q:Rat):Nat:=max (lw q.num) (lw (q.den:Int))
def QC:Nat:=100000000000
theorem ar(q:Rat):an (aG q)=q:=by
 simp only[an,aG,bG];exact Ps q
theorem aX(q:Rat):NOK (aG q):=by simp only[NOK,ar]
theorem NOK.parts{x:ND}(h:NOK x):x.1=enc (an x).num/\x.2=enc ((an x).den:Int):=by
 have:=h.symm;exact⟨congrArg Prod.fst this,congrArg Prod.snd this⟩
theorem NOK.w1{x:ND}(h:NOK x):WOK x.1:=by rw[h.parts.1];exact enc_ok _
theorem NOK.w2{x:ND}(h:NOK x):WOK x.2:=by rw[h.parts.2];exact enc_ok _
theorem NOK.d1{x:ND}(h:NOK x):dec x.1=(an x).num:=by rw[h.parts.1,bG]
theorem NOK.d2{x:ND}(h:NOK x):dec x.2=((an x).den:Int):=by rw[h.parts.2,bG]
theorem NOK.pos{x:ND}(h:NOK x):0<dec x.2:=by rw[h.d2];have:=(an x).den_pos;omega
theorem NOK.l1{x:ND}(h:NOK x):x.1.2.length<=lq (an x):=by rw[h.parts.1];exact Sa _ _
theorem NOK.l2{x:ND}(h:NOK x):x.2.2.length<=lq (an x):=by rw[h.parts.2];exact RW _ _
theorem WOK.lw{x:Bool×List Int}(h:WOK x):x.2.length=lw (dec x):=by unfold Cm.lw;rw[h.enc]
theorem ny(n:Int):(n.natAbs:Int)<LB^lw n:=rG n (Oa _)
theorem kU{n:Int}{k:Nat}(h:(n.natAbs:Int)<LB^k):lw n<=k:=limbs_len h
theorem j7{a b:Int}(h:a.natAbs<=b.natAbs):lw a<=lw b:=kU (by have:=ny b;omega)
theorem Am(a:Int):lw (-a)=lw a:=by unfold lw enc;rw[Int.natAbs_neg]
theorem lL:lw 0=0:=by
 have:lw 0<=0:=kU (by simp);omega
theorem jn:lw 1=1:=by
 have h1:lw 1<=1:=kU (by simp[LB]);have h2:lw 1≠0:=fun h=>by have:=ny 1;rw[h] at this;simp at this
 omega
theorem cd(a b:Int):lw (a*b)<=lw a+lw b:=by
 refine kU ?_;have h1:=ny a;have h2:=ny b;rw[RL,Q7,RK];have h5:(a.natAbs:Int)*(b.natAbs:Int)<=(a.natAbs:Int)*LB^lw b:=Oe (by omega) (by omega);have h6:(a.natAbs:Int)*LB^lw b<LB^lw a*LB^lw b:=Qp h1 (lbpos _);omega
theorem wu(a b:Int):lw (a+b)<=max (lw a) (lw b)+1:=by
 have h1:=rG a (k:=max (lw a) (lw b)) (Sa _ _);have h2:=rG b (k:=max (lw a) (lw b)) (RW _ _);refine kU ?_;have h3:LB^(max (lw a) (lw b)+1)=LB^max (lw a) (lw b)*LB:=OB _ _;have h4:LB^max (lw a) (lw b)*2<=LB^max (lw a) (lw b)*LB:=Oe (by decide) (O8 (lbpos _));omega
theorem GM{n:Int}(h:I64 n):lw n<=3:=(lK h).2.2
theorem dy(q:Rat):lw q.num<=lq q:=Sa _ _
theorem ev(q:Rat):lw (q.den:Int)<=lq q:=RW _ _
theorem rL(n d:Int)(hd:d≠0):lq (Ox n d)<=max (lw n) (lw d):=by
 have hg:0<Int.gcd d n:=Int.gcd_pos_of_ne_zero_left n hd;refine Nat.max_le.2 ⟨Og (j7 ?_) (Sa _ _),Og (j7 ?_) (RW _ _)⟩
 ·rw[Rat.num_divInt,Int.natAbs_ediv_of_dvd (Int.dvd_trans (T4 ..) (Int.dvd_mul_left _ _)),RL];rw[QI];have:d.sign.natAbs=1:=by rw[Int.natAbs_sign,if_neg hd]
  rw[this,Nat.one_mul];exact Nat.div_le_self _ _
 ·rw[Rat.den_divInt,if_neg hd,QI];exact Nat.div_le_self _ _
theorem rM(x y:Rat):x+y=Ox (x.num*y.den+y.num*x.den) (x.den*y.den):=by
 have hx:(x.den:Int)≠0:=by have:=x.den_pos;omega
 have hy:(y.den:Int)≠0:=by have:=y.den_pos;omega
 conv=>lhs;rw[<- Ps x,<- Ps y]
 rw[Rat.divInt_add_divInt _ _ hx hy]
theorem rN(x y:Rat):x*y=Ox (x.num*y.num) (x.den*y.den):=by
 conv=>lhs;rw[<- Ps x,<- Ps y]
 rw[Q5]
theorem rO(x y:Rat):x/y=Ox (x.num*y.den) (x.den*y.num):=by
 rw[Sd,Rat.inv_def];conv=>lhs;arg 1;rw[<- Ps x]
 rw[Q5]
theorem fR(x:Rat):(x.den:Int)≠0:=by have:=x.den_pos;omega
theorem An{x:Rat}(h:x≠0):x.num≠0:=fun e=>h (Rat.num_eq_zero.1 e)
theorem j8(x y:Rat):lq (x+y)<=lq x+lq y+1:=by
 rw[rM];refine Og (rL _ _ (Pm (fR x) (fR y))) ?_;have h1:=wu (x.num*y.den) (y.num*x.den);have h2:=cd x.num y.den;have h3:=cd y.num x.den;have h4:=cd x.den y.den;have:=dy x;have:=dy y;have:=ev x;have:=ev y;omega
theorem rP(x:Rat):lq (-x)=lq x:=by unfold lq;rw[Rat.neg_num,Rat.neg_den,Am]
theorem Ao(x y:Rat):lq (x-y)<=lq x+lq y+1:=by
 rw[SZ];have:=j8 x (-y);rw[rP] at this;exact this
theorem mv(x y:Rat):lq (x*y)<=lq x+lq y:=by
 rw[rN];refine Og (rL _ _ (Pm (fR x) (fR y))) ?_;have h2:=cd x.num y.num;have h4:=cd x.den y.den;have:=dy x;have:=dy y;have:=ev x;have:=ev y;omega
theorem mw(x y:Rat):lq (x/y)<=lq x+lq y:=by
 by_cases hy:y=0
 ·subst hy;rw[Sd,Rat.inv_zero,Rat.mul_zero];have:lq 0<=1:=by unfold lq;rw[show (0:Rat).num=0 from rfl,show (0:Rat).den=1 from rfl,lL];show max 0 (lw 1)<=1;rw[jn];decide
  have h1:1<=lq x:=by
   have:=ev x;(have h2:lw (x.den:Int)≠0:=fun h=>by have:=ny (x.den:Int);rw[h] at this;have:=x.den_pos;simp at*;omega);omega
  omega
 rw[rO];refine Og (rL _ _ (Pm (fR x) (An hy))) ?_;have h2:=cd x.num y.den;have h4:=cd x.den y.num;have:=dy x;have:=dy y;have:=ev x;have:=ev y;omega
def jo(n d:Int):Int:=if d<0 then-dK n d else dK n d
theorem yb{n d:Int}(hd:d≠0):0<dK n d:=by
 unfold dK;have:0<RG n.natAbs d.natAbs:=Nat.gcd_pos_of_pos_right _ (by omega);omega
theorem wv{n d:Int}(hd:d≠0):(dK n d).natAbs<=d.natAbs:=by
 unfold dK;exact Nat.le_of_dvd (by omega) (Nat.gcd_dvd_right _ _)
theorem kV(n d:Int):(Int.gcd d n:Int)=dK n d:=by
 unfold dK Int.gcd;rw[T3]
theorem rQ{n d:Int}(hd:d≠0):aG (Ox n d)=(enc (fm n (jo n d)),enc (fm d (jo n d))):=by
 have hg:=yb (n:=n) hd;have hdv:(dK n d)∣d:=by rw[<- kV];exact Int.gcd_dvd_left ..
 have hnv:(dK n d)∣n:=by rw[<- kV];exact T4 ..
 unfold aG;rw[Rat.num_divInt,Rat.den_divInt,if_neg hd,kV];have hden:((d.natAbs/Int.gcd d n:Nat):Int)=(d.natAbs:Int)/dK n d:=by rw[<- kV,Int.natCast_ediv]
 rw[hden];unfold jo fm;by_cases hn:d<0
 ·rw[if_pos hn,if_neg (by omega),if_neg (by omega),Ub,Int.sign_eq_neg_one_of_neg hn];have:(d.natAbs:Int)= -d:=by omega
  rw[this];congr 2;rw[Int.neg_one_mul]
 ·rw[if_neg hn,if_pos hg,if_pos hg,Int.sign_eq_one_of_pos (by omega),Rb];have:(d.natAbs:Int)=d:=by omega
  rw[this]
theorem rR(n:Int):fm n 1=n:=by unfold fm;simp
theorem yc{n d:Int}(hd:d≠0)(h:jo n d=1):aG (Ox n d)=(enc n,enc d):=by
 rw[rQ hd,h,rR,rR]
theorem Ap{g:Int}(h1:¬1<(enc g).2.length)(h2:(enc g).1=false)(h3:(enc g).2.getD 0 0=1):g=1:=by
 have hw:=enc_ok g;have hne:(enc g).2≠[]:=by intro e;rw[e] at h3;simp at h3
 obtain⟨a,ha⟩:∃a,(enc g).2=[a]:=by
  match h:(enc g).2,h1,hne with
  | [a],_,_=>exact⟨a,rfl⟩
  |a::b::l,h1,_=>simp at h1
 rw[ha] at h3;simp at h3;have:=bG g;rw[show enc g=(false,[1]) from Prod.ext h2 (by rw[ha,h3])] at this;rw[<- this];simp[dec,valL]
theorem pe(x:Bool×List Int):(x.1,x.2)=x:=rfl
theorem BW{d:Bool×List Int}(h:WOK d):d.1=decide (dec d<0):=congrArg Prod.fst h.enc.symm
def gV(n d:Bool×List Int):Prop:=WOK n/\WOK d/\dec d≠0/\n.2.length+d.2.length<=4*QC
theorem rS{n d:Int}(hd:d≠0):(jo n d).natAbs<=d.natAbs/\jo n d≠0:=by
 have h1:=wv (n:=n) hd;have h2:=yb (n:=n) hd;unfold jo;split<;>omega
theorem M3{n d:Bool×List Int}(h:gV n d)(hb:d.1=true): -dK (dec n) (dec d)=jo (dec n) (dec d):=by
 rw[BW h.2.1,decide_eq_true_eq] at hb;unfold jo;rw[if_pos hb]
theorem M4{n d:Bool×List Int}(h:gV n d)(hb:d.1=false):dK (dec n) (dec d)=jo (dec n) (dec d):=by
 rw[BW h.2.1,decide_eq_false_iff_not] at hb;unfold jo;rw[if_neg hb]
theorem Lm{n d:Bool×List Int}(h:gV n d):oA n d:=by
 obtain⟨h1,h2,h3,h4⟩:=h;refine⟨h1,h2,?_⟩;unfold QC at h4;unfold CAP;omega
theorem GN{n d:Bool×List Int}(h:gV n d):lw (dK (dec n) (dec d))<=d.2.length/\lw (jo (dec n) (dec d))<=d.2.length:=by
 obtain⟨h1,h2,h3,h4⟩:=h;rw[h2.lw];exact⟨j7 (wv h3),j7 (rS h3).1⟩
theorem Ln{n d:Bool×List Int}(h:gV n d):Lim (enc (dK (dec n) (dec d))).2/\(enc (dK (dec n) (dec d))).2.length<CAP:=by
 refine⟨(enc_ok _).1.1,?_⟩;have h1:=(GN h).1;have h4:=h.2.2.2;unfold lw at h1;unfold QC at h4;unfold CAP;omega
theorem mk_pos{n d:Bool×List Int}(h:gV n d):(0:Int)<((enc (jo (dec n) (dec d))).2.length:Int):=by
 have h1:=(fP (enc_ok (jo (dec n) (dec d)))).1;rw[bG] at h1;have h2:=(rS (n:=dec n) h.2.2.1).2;have:=mt h1.1 h2;omega
theorem GO{n d:Bool×List Int}(h:gV n d):mr n (enc (jo (dec n) (dec d)))/\mr d (enc (jo (dec n) (dec d))):=by
 have h1:=(GN h).2;have h2:=(rS (n:=dec n) h.2.2.1).2;obtain⟨h3,h4,h5,h6⟩:=h;unfold lw at h1;unfold QC at h6;exact⟨⟨h3,enc_ok _,by rw[bG];exact h2,by unfold CAP;omega⟩,⟨h4,enc_ok _,by rw[bG];exact h2,by unfold CAP;omega⟩⟩
theorem Lo{n d:Bool×List Int}(h:gV n d)(hb:(decide ((1:Int)<((enc (jo (dec n) (dec d))).2.length:Int))||(enc (jo (dec n) (dec d))).1||nth (.int .u32) (enc (jo (dec n) (dec d))).2 0 !=1)=false):(n,d)=aG (Ox (dec n) (dec d)):=by
 simp only[PN,decide_eq_false_iff_not,bne_eq_false_iff_eq] at hb;obtain⟨⟨h1,h2⟩,h3⟩:=hb;have:=Ap (by omega) h2 h3;rw[yc h.2.2.1 this,h.1.enc,h.2.1.enc]
def dZ(x y:ND):Prop:=NOK x/\NOK y/\lq (an x)+lq (an y)<=QC
theorem lwl(a:Int):(enc a).2.length=lw a:=rfl
theorem NOK.ex{x:ND}(h:NOK x):∃q,x=aG q:=⟨an x,h.symm⟩
theorem pe2(x:ND):((x.1.1,x.1.2),x.2.1,x.2.2)=x:=rfl
theorem rT:4*QC+4<CAP:=by unfold QC CAP;decide
theorem uI{x y:ND}(h:dZ x y):(WOK x.1/\WOK y.2/\If x.1.2+If y.2.2<CAP)/\
  (WOK y.1/\WOK x.2/\If y.1.2+If x.2.2<CAP)/\
   (WOK (enc (dec x.1*dec y.2))/\WOK (enc (dec y.1*dec x.2))/\If (enc (dec x.1*dec y.2)).2+If (enc (dec y.1*dec x.2)).2<CAP)/\
    (WOK x.2/\WOK y.2/\If x.2.2+If y.2.2<CAP)/\
     gV (enc (dec (enc (dec x.1*dec y.2))+dec (enc (dec y.1*dec x.2)))) (enc (dec x.2*dec y.2)):=by
 obtain⟨h1,h2,h3⟩:=h;obtain⟨p,rfl⟩:=h1.ex;obtain⟨q,rfl⟩:=h2.ex;rw[ar,ar] at h3;simp only[aG,gV,bG,lwl];have a1:=dy p;have a2:=ev p;have a3:=dy q;have a4:=ev q;have m1:=cd p.num q.den;have m2:=cd q.num p.den;have m3:=cd p.den q.den;have m4:=wu (p.num*q.den) (q.num*p.den);have hc:=rT;refine⟨⟨enc_ok _,enc_ok _,by omega⟩,⟨enc_ok _,enc_ok _,by omega⟩,⟨enc_ok _,enc_ok _,by omega⟩,⟨enc_ok _,enc_ok _,by omega⟩,enc_ok _,enc_ok _,Pm (fR p) (fR q),?_⟩;have:QC=100000000000:=rfl;omega
theorem GP{x y:ND}(h:dZ x y):aG (Ox (dec (enc (dec (enc (dec x.1*dec y.2))+dec (enc (dec y.1*dec x.2))))) (dec (enc (dec x.2*dec y.2))))=aG (an x+an y):=by
 obtain⟨h1,h2,h3⟩:=h;simp only[bG,h1.d1,h1.d2,h2.d1,h2.d2];rw[rM]
theorem Eo{x:ND}(h:NOK x/\lq (an x)<=QC):Lim x.1.2/\If x.1.2<CAP:=
 ⟨h.1.w1.1.1,by have:=h.1.l1;have:=h.2;have:=rT;omega⟩
theorem GR{x:ND}(h:NOK x):((enc (-dec x.1)),x.2)=aG (-an x):=by
 obtain⟨p,rfl⟩:=h.ex;rw[ar];simp only[aG,bG,Rat.neg_num,Rat.neg_den]
theorem Ep{x y:ND}(h:dZ x y):(NOK y/\lq (an y)<=QC)/\dZ x (aG (-an y)):=by
 obtain⟨h1,h2,h3⟩:=h;exact⟨⟨h2,by omega⟩,h1,aX _,by rw[ar,rP];exact h3⟩
theorem GS(x y:ND):aG (an x+an (aG (-an y)))=aG (an x-an y):=by
 rw[ar,SZ]
theorem Er{x y:ND}(h:dZ x y):(WOK x.1/\WOK y.1/\If x.1.2+If y.1.2<CAP)/\
  (WOK x.2/\WOK y.2/\If x.2.2+If y.2.2<CAP)/\gV (enc (dec x.1*dec y.1)) (enc (dec x.2*dec y.2)):=by
 obtain⟨h1,h2,h3⟩:=h;obtain⟨p,rfl⟩:=h1.ex;obtain⟨q,rfl⟩:=h2.ex;rw[ar,ar] at h3;simp only[aG,gV,bG,lwl];have a1:=dy p;have a2:=ev p;have a3:=dy q;have a4:=ev q;have m1:=cd p.num q.num;have m3:=cd p.den q.den;have hc:=rT;exact⟨⟨enc_ok _,enc_ok _,by omega⟩,⟨enc_ok _,enc_ok _,by omega⟩,enc_ok _,enc_ok _,Pm (fR p) (fR q),by omega⟩
theorem GT{x y:ND}(h:dZ x y):aG (Ox (dec (enc (dec x.1*dec y.1))) (dec (enc (dec x.2*dec y.2))))=aG (an x*an y):=by
 obtain⟨h1,h2,h3⟩:=h;simp only[bG,h1.d1,h1.d2,h2.d1,h2.d2];rw[rN]
theorem Et{x y:ND}(h:dZ x y/\an y≠0):(WOK x.1/\WOK y.2/\If x.1.2+If y.2.2<CAP)/\
  (WOK x.2/\WOK y.1/\If x.2.2+If y.1.2<CAP)/\gV (enc (dec x.1*dec y.2)) (enc (dec x.2*dec y.1)):=by
 obtain⟨⟨h1,h2,h3⟩,h0⟩:=h;obtain⟨p,rfl⟩:=h1.ex;obtain⟨q,rfl⟩:=h2.ex;rw[ar,ar] at h3;rw[ar] at h0;simp only[aG,gV,bG,lwl];have a1:=dy p;have a2:=ev p;have a3:=dy q;have a4:=ev q;have m1:=cd p.num q.den;have m3:=cd p.den q.num;have hc:=rT;exact⟨⟨enc_ok _,enc_ok _,by omega⟩,⟨enc_ok _,enc_ok _,by omega⟩,enc_ok _,enc_ok _,Pm (fR p) (An h0),by omega⟩
theorem GU{x y:ND}(h:dZ x y):aG (Ox (dec (enc (dec x.1*dec y.2))) (dec (enc (dec x.2*dec y.1))))=aG (an x/an y):=by
 obtain⟨h1,h2,h3⟩:=h;simp only[bG,h1.d1,h1.d2,h2.d1,h2.d2];rw[rO]
theorem GV{n d:Int}(h:I64 n/\I64 d/\d≠0):I64 n/\I64 d/\gV (enc n) (enc d):=by
 refine⟨h.1,h.2.1,enc_ok _,enc_ok _,by rw[bG];exact h.2.2,?_⟩;have:=(lK h.1).2.2;have:=(lK h.2.1).2.2;unfold QC;omega
theorem Jq(n d:Int):aG (Ox (dec (enc n)) (dec (enc d)))=aG (Ox n d):=by rw[bG,bG]
theorem zero_divInt:Ox 0 1=0:=by decide
theorem rU{x:ND}(h:NOK x/\lq (an x)<=QC):(WOK x.1/\If x.1.2<CAP)/\(WOK x.2/\If x.2.2<CAP):=by
 have:=h.1.l1;have:=h.1.l2;have:=h.2;have:=rT;exact⟨⟨h.1.w1,by omega⟩,h.1.w2,by omega⟩
theorem Eu{x:ND}(k:Int)(h:NOK x):(decide (eV (dec x.1)<=k)&&decide (eV (dec x.2)<=k))=decide (eV (an x).num<=k/\eV ((an x).den:Int)<=k):=by
 rw[h.d1,h.d2,Bool.decide_and]
def iF(q:Rat):List UInt8:=if q.den=1 then ON q.num else ON q.num++ [47]++ON (q.den:Int)
theorem p8(n:Int):(ON n).length<=9*lw n+2:=by
 have h1:=ny n;rw[Jd] at h1;have h2:=BV (a:=n.natAbs) (k:=9*lw n) (by omega);have h3:(ON n).length<=(Oi n.natAbs).length+1:=by
  unfold ON;split
  ·(have:(-n).toNat=n.natAbs:=by omega);simp[this]
  ·(have:n.toNat=n.natAbs:=by omega);simp[this]
 omega
def tN(q:List UInt8):List UInt8:=q.takeWhile (· !=47)
def cB(q:List UInt8):Bool:=q.any (· ==47)
def tR(q:List UInt8):List UInt8:=q.drop ((tN q).length+1)
def tD(q:List UInt8):List UInt8:=if cB q=true then tR q else [49]
theorem pJ:∀q:List UInt8,Lib.index q [47]=if cB q=true then ((tN q).length:Int) else-1
 | []=>by simp[Lib.index,cB]
 |b::l=>by
  have ih:=pJ l;unfold Lib.index;by_cases hb:b=47;·subst hb;simp[cB,tN]
  ·(have h1: [47].isPrefixOf (b::l)=false:=by simp[List.isPrefixOf,Ne.symm hb]);(have h2:cB (b::l)=cB l:=by simp[cB,hb]);(have h3:(tN (b::l)).length=(tN l).length+1:=by simp[tN,hb]);rw[h1,ih,h2,h3];cases hs:cB l;·simp
   ·simp only[if_true,Pd,if_false];rw[if_neg (by intro e;have:=beq_iff_eq.1 e;omega)];omega
theorem wx{q:List UInt8}(h:cB q=false):tN q=q:=by
 unfold tN;induction q with
 |nil=>rfl
 |cons c l ih=>
  simp only[cB,RB,PN,beq_eq_false_iff_ne] at h;rw[List.takeWhile_cons,if_pos (by simp[h.1]),ih h.2]
theorem Ev(q:List UInt8):T5 q [47]=(tN q,if cB q=true then tR q else [],cB q):=by
 unfold T5;rw[pJ];cases hs:cB q;·rw[wx hs];simp
 ·simp only[if_true];rw[if_pos (by omega),Od];have:q.take (tN q).length=tN q:=by
   unfold tN;exact(List.prefix_iff_eq_take.1 (Tz _)).symm
  rw[this];rfl
theorem Aq(q:List UInt8):(tN q).length<=q.length:=(Tz _).length_le
theorem Lp(q:List UInt8):(tR q).length<=q.length:=by unfold tR;simp
theorem Ar(q:List UInt8):(tD q).length<=q.length+1:=by
 unfold tD;split;·have:=Lp q;omega
 ·simp
def QL:Nat:=1000000000
def ga(q:List UInt8):Prop:=RF (tN q)/\RF (tD q)/\q.length<=QL
def fY(q:List UInt8):ND:=(enc (bK (tN q)),enc (bK (tD q)))
def cM(q:List UInt8):Int:=
 if chk (tN q)=5∨chk (tD q)=5 then 5
 else if cB q=true/\(bK (tD q)<=1∨dK (bK (tN q)) (bK (tD q))≠1) then 5
 else if 2000<eV (bK (tN q))∨2000<eV (bK (tD q)) then 6 else 0
def cu(q:List UInt8):Rat:=Ox (bK (tN q)) (bK (tD q))
def RQ(q:List UInt8):Prop:=cM q≠5/\q.length<=QL
theorem RQ.form{q:List UInt8}(h:RQ q):ga q:=by
 have h1:=h.1;unfold cM at h1;split at h1;·exact absurd rfl h1
 ·rename_i h2;exact⟨fun e=>h2 (.inl e),fun e=>h2 (.inr e),h.2⟩
theorem wy:bK [49]=1:=by decide
theorem RQ.red{q:List UInt8}(h:RQ q):0<bK (tD q)/\dK (bK (tN q)) (bK (tD q))=1:=by
 have h1:=h.1;unfold cM at h1;split at h1;·exact absurd rfl h1
 ·split at h1;·exact absurd rfl h1
  ·rename_i h2 h3;cases hs:cB q
   ·(have:tD q=[49]:=by unfold tD;rw[hs];rfl);rw[this,wy];exact⟨by decide,by unfold dK;simp⟩
   ·rw[hs] at h3;have h4:¬bK (tD q)<=1:=fun e=>h3 ⟨rfl,.inl e⟩;have h5:dK (bK (tN q)) (bK (tD q))=1:=Decidable.not_not.1 fun e=>h3 ⟨rfl,.inr e⟩;exact⟨by omega,h5⟩
theorem RQ.raw{q:List UInt8}(h:RQ q):fY q=aG (cu q):=by
 obtain⟨h1,h2⟩:=h.red;unfold fY cu;have hd:bK (tD q)≠0:=by omega
 rw[yc hd];unfold jo;rw[if_neg (by omega),h2]
theorem RQ.parts{q:List UInt8}(h:RQ q):(cu q).num=bK (tN q)/\((cu q).den:Int)=bK (tD q):=by
 have h1:=h.raw;unfold fY aG at h1;have h2:=congrArg (fun x:ND=>dec x.1) h1;have h3:=congrArg (fun x:ND=>dec x.2) h1;simp only[bG] at h2 h3;exact⟨h2.symm,h3.symm⟩
theorem GW{s:List UInt8}(h:RF s):lw (bK s)<=s.length:=by
 obtain⟨h1,_,_⟩:=wt h;refine kU ?_;rw[uH];have h2:=kP h1;have h3:(10:Nat)^(ay s [45]).length<=10^s.length:=PA (by omega) (ns s _);have h4:(10:Nat)^s.length<=1000000000^s.length:=Nat.pow_le_pow_left (by omega) _;have h5:(LB^s.length:Int)=((1000000000^s.length:Nat):Int):=by rw[Sb];rfl
 rw[h5];omega
theorem ga.lens{q:List UInt8}(h:ga q):lw (bK (tN q))<=QL/\lw (bK (tD q))<=QL+1:=by
 have h1:=GW h.1;have h2:=GW h.2.1;have h3:=Aq q;have h4:=Ar q;have h5:=h.2.2;omega
def kW(q:List UInt8):ND×Int:=if cM q=0 then (aG (cu q),0) else (((false,[]),(false,[])),cM q)
theorem Jr{a:Int}:bq a 1<=0↔a<=1:=by
 unfold bq;split;·constructor<;>omega
 ·split;·constructor<;>omega
  ·constructor<;>omega
theorem GX{a b:Int}:bq a b≠0↔a≠b:=by
 unfold bq;split;·constructor<;>omega
 ·split;·constructor<;>omega
  ·constructor<;>omega
theorem uJ{D:List UInt8}{r:Nat}(hr:0<(D.length:Int)-9*(r:Int))(hl:D.length<1000000000000):
  IN.wrap ((D.length:Int)-9*(r:Int)-9)=(D.length:Int)-9*(r:Int)-9/\Px (max 0 ((D.length:Int)-9*(r:Int)-9))=D.length-9*(r+1)/\Px ((D.length:Int)-9*(r:Int))=D.length-9*r:=
 ⟨wo,by omega,by omega⟩
theorem kX{q:List UInt8}(h:cB q=true):(if cB q=true then tR q else [])=tD q:=by unfold tD;rw[if_pos h,if_pos h]
theorem wz{q:List UInt8}(h:cB q=false): [49]=tD q:=by unfold tD;rw[if_neg (by rw[h];decide)]
theorem oD{q:List UInt8}(h:ga q):q.length<4294967281/\(RF (tN q)/\(tN q).length<CAP)/\(RF (tD q)/\(tD q).length<CAP):=by
 obtain⟨h1,h2,h3⟩:=h;have h4:=Aq q;have h5:=Ar q;have e1:QL=1000000000:=rfl;have e2:CAP=1000000000000:=rfl;exact⟨by omega,⟨h1,by omega⟩,h2,by omega⟩
theorem GY{q:List UInt8}(h:cB q=false):(((enc (bK (tN q))).1,(enc (bK (tN q))).2),(enc 1).1,(enc 1).2)=fY q:=by
 unfold fY;rw[<- wz h,wy]
theorem GZ{q:List UInt8}(h:q.length<=QL):nu (tN q)/\nu (tD q):=by
 have h4:=Aq q;have h5:=Ar q;have e1:QL=1000000000:=rfl;unfold nu;exact⟨by omega,by omega⟩
theorem lone:(enc 1).2.length=1:=jn
theorem M5{q:List UInt8}(h:ga q):If (enc (bK (tD q))).2+If (enc 1).2<CAP:=by
 have:=h.lens;have e1:QL=1000000000:=rfl;have e2:CAP=1000000000000:=rfl;rw[lwl,lone];omega
theorem Lq{q:List UInt8}(h:ga q):oA (enc (bK (tN q))) (enc (bK (tD q))):=by
 have:=h.lens;have e1:QL=1000000000:=rfl;refine⟨enc_ok _,enc_ok _,?_⟩;rw[lwl,lwl];unfold CAP;omega
theorem M6{q:List UInt8}(h:ga q):If (enc (dK (bK (tN q)) (bK (tD q)))).2+If (enc 1).2<CAP:=by
 have h1:=h.lens;have e1:QL=1000000000:=rfl;have e2:CAP=1000000000000:=rfl;rw[lwl,lone];have h2:lw (dK (bK (tN q)) (bK (tD q)))<=lw (bK (tN q))+lw (bK (tD q)):=by
  by_cases hd:bK (tD q)=0
  ·(have:dK (bK (tN q)) (bK (tD q))=((bK (tN q)).natAbs:Int):=by unfold dK;rw[hd];simp);rw[this];have:=j7 (a:=((bK (tN q)).natAbs:Int)) (b:=bK (tN q)) (by simp);omega
  ·have:=j7 (wv (n:=bK (tN q)) hd);omega
 omega
theorem Js{q:List UInt8}(h:q.length<=QL)(hb:(chk (tN q)==5||chk (tD q)==5)=false):ga q:=by
 simp only[PN,beq_eq_false_iff_ne] at hb;exact⟨hb.1,hb.2,h⟩
theorem Jt{q:List UInt8}(hb:(chk (tN q)==5||chk (tD q)==5)=true):((((false,[]),false,[]),5):ND×Int)=kW q:=by
 simp only[OT,beq_iff_eq] at hb;have:cM q=5:=by unfold cM;rw[if_pos hb]
 unfold kW;rw[this];rfl
theorem ga.not{q:List UInt8}(h:ga q):¬(chk (tN q)=5∨chk (tD q)=5):=fun e=>e.elim h.1 h.2.1
theorem BX(q:List UInt8):(decide (bq (bK (tD q)) 1<=0)||bq (dK (bK (tN q)) (bK (tD q))) 1 !=0)=true↔(bK (tD q)<=1∨dK (bK (tN q)) (bK (tD q))≠1):=by
 rw[OT,decide_eq_true_eq,bne_iff_ne,Jr,GX]
theorem Ju{q:List UInt8}(h:ga q)(hb:cB q=true/\(decide (bq (bK (tD q)) 1<=0)||bq (dK (bK (tN q)) (bK (tD q))) 1 !=0)=true):((((false,[]),false,[]),5):ND×Int)=kW q:=by
 rw[BX] at hb;have:cM q=5:=by unfold cM;rw[if_neg h.not,if_pos hb]
 unfold kW;rw[this];rfl
theorem M7{q:List UInt8}(h:ga q)(hb:cB q=true->(decide (bq (bK (tD q)) 1<=0)||bq (dK (bK (tN q)) (bK (tD q))) 1 !=0)=false):RQ q:=by
 refine⟨?_,h.2.2⟩;unfold cM;rw[if_neg h.not,if_neg (fun e=>by have:=hb e.1;rw[(BX q).2 e.2] at this;cases this)];split<;>decide
theorem Lr{q:List UInt8}(h:RQ q):lq (cu q)<=QC:=by
 have h1:=h.form.lens;have h2:=h.parts;unfold lq;rw[h2.1,h2.2];have e1:QL=1000000000:=rfl;have e2:QC=100000000000:=rfl;omega
theorem As{q:List UInt8}(h:RQ q):an (fY q)=cu q:=by rw[h.raw,ar]
theorem Jv{q:List UInt8}(h:RQ q):NOK (fY q)/\lq (an (fY q))<=QC:=by
 rw[As h,h.raw];exact⟨aX _,Lr h⟩
theorem RQ.chk{q:List UInt8}(h:RQ q):cM q=if 2000<eV (bK (tN q))∨2000<eV (bK (tD q)) then 6 else 0:=by
 have h1:=h.1;revert h1;unfold cM;split;·intro h1;exact absurd rfl h1
 ·split;·intro h1;exact absurd rfl h1
  ·intro _;rfl
theorem M8{q:List UInt8}(h:RQ q)(hb:eV (an (fY q)).num<=2000/\eV ((an (fY q)).den:Int)<=2000):(fY q,(0:Int))=kW q:=by
 rw[As h,h.parts.1,h.parts.2] at hb;have:cM q=0:=by rw[h.chk,if_neg (by omega)]
 unfold kW;rw[if_pos this,h.raw]
theorem Ls{q:List UInt8}(h:RQ q)(hb:¬(eV (an (fY q)).num<=2000/\eV ((an (fY q)).den:Int)<=2000)):((((false,[]),false,[]),6):ND×Int)=kW q:=by
 rw[As h,h.parts.1,h.parts.2] at hb;have:cM q=6:=by rw[h.chk,if_pos (by omega)]
 unfold kW;rw[this];rfl
theorem Ew(q:List UInt8):(kW q).2=cM q:=by
 unfold kW;split;·rename_i h;exact h.symm
 ·rfl
def nz(q:Rat):Bool:=decide (eV q.num<=2000/\eV (q.den:Int)<=2000)
def BZ(q:Rat):Int:=if nz q=true then 0 else 6
theorem gS{t:Ty}{l:List t.D}{k:Nat}(h:k<l.length):nth t l (k:Int)=l[k]:=by
 unfold nth;simp[h]
theorem At{t:Ty}{l:List t.D}{k:Nat}(h:k<l.length):nth t l (k:Int)∈l:=by rw[gS h];exact OE h
theorem G0{t:Ty}{β:Type}(f:t.D->β){l:List t.D}{k:Nat}(h:k<l.length):(l.take k).map f++ [f (nth t l (k:Int))]=(l.take (k+1)).map f:=by
 rw[gS h,Qx h,QB];rfl
theorem wA{n:Nat}(h:n<=1000000001):Cm.Roomy 4 n:=by unfold Cm.Roomy;omega
theorem list_round{l:List (List UInt8)}{k:Nat}(h:k<l.length)(hl:l.length<QL):∃z:Nat,IN.wrap ((k:Int)+1)=(z:Int)/\List.map fY (l.take k)++ [fY (nth .str l (k:Int))]=List.map fY (l.take z)/\z<=l.length/\l.length-z<l.length-k:=by
 have e1:QL=1000000000:=rfl;exact⟨k+1,by rw[wo];omega,G0 (t:= .str) fY h,by omega,by omega⟩
def aw(l:List Rat):List ND:=l.map aG
def ab(p:List ND):List Rat:=p.map an
def Sz(k:Nat)(p:List ND):Prop:=∀x∈p,NOK x/\lq (an x)<=k
theorem aA(l:List Rat):ab (aw l)=l:=by
 simp only[ab,aw,QW];conv=>rhs;rw[<- Rs l]
 exact Pw fun x _=>ar x
theorem Sz.enc{k:Nat}{p:List ND}(h:Sz k p):aw (ab p)=p:=by
 simp only[ab,aw,QW];conv=>rhs;rw[<- Rs p]
 exact Pw fun x hx=>(h x hx).1
theorem Sz.ex{k:Nat}{p:List ND}(h:Sz k p):∃l,p=aw l/\∀x∈l,lq x<=k:=by
 refine⟨ab p,h.enc.symm,fun x hx=>?_⟩;obtain⟨y,hy,rfl⟩:=Ot.1 hx;exact(h y hy).2
theorem gT{k:Nat}{l:List Rat}(h:∀x∈l,lq x<=k):Sz k (aw l):=by
 intro x hx;obtain⟨y,hy,rfl⟩:=Ot.1 hx;exact⟨aX y,by rw[ar];exact h y hy⟩
theorem Sz.mono{k m:Nat}{p:List ND}(h:Sz k p)(hm:k<=m):Sz m p:=fun x hx=>⟨(h x hx).1,Og (h x hx).2 hm⟩
theorem aq(l:List Rat):(aw l).length=l.length:=by simp[aw]
theorem az(p:List ND):(ab p).length=p.length:=by simp[ab]
def br:List Rat->List Rat
 | []=>[]
 |x::l=>match br l with
  | []=>if x=0 then [] else [x]
  |y::m=>x::y::m
theorem pW(l:List Rat):br (l++ [0])=br l:=by
 induction l with
 |nil=>simp[br]
 |cons x l ih=>simp only[OS,br,ih]
theorem Au{l:List Rat}{x:Rat}(h:x≠0):br (l++ [x])=l++ [x]:=by
 induction l with
 |nil=>simp[br,h]
 |cons y l ih=>
  simp only[OS,br,ih];cases hl:l++ [x] with
  |nil=>simp at hl
  |cons z m=>rfl
theorem rV{l:List Rat}(h:l≠[])(h0:l.getLastD 0≠0):br l=l:=by
 obtain⟨m,x,rfl⟩:∃m x,l=m++ [x]:=⟨l.dropLast,l.getLast h,(Pf h).symm⟩;refine Au ?_;simpa using h0
theorem mz{l:List Rat}(h:l≠[])(h0:l.getLastD 0=0):br l=br l.dropLast:=by
 obtain⟨m,x,rfl⟩:∃m x,l=m++ [x]:=⟨l.dropLast,l.getLast h,(Pf h).symm⟩;have:x=0:=by simpa using h0
 subst this;rw[pW,List.dropLast_concat]
theorem sign_zero(q:Rat):bq q.num 0=0↔q=0:=by
 have:bq q.num 0=0↔q.num=0:=by
  have:=GX (a:=q.num) (b:=0);constructor;·intro h;exact Decidable.not_not.1 fun e=>(this.2 e) h
  ·intro h;exact Decidable.not_not.1 fun e=>(this.1 e) h
 rw[this,Rat.num_eq_zero]
theorem lM{l:List Rat}{k:Nat}(h:k<l.length):nth NT (aw l) (k:Int)=aG l[k]:=by
 rw[gS (t:=NT) (by rw[aq];exact h)];simp[aw]
theorem yf{l:List Rat}(h:0<l.length):an (nth NT (aw l) ((l.length:Int)-1))=l.getLastD 0:=by
 have e:(l.length:Int)-1=((l.length-1:Nat):Int):=by omega
 rw[e,lM (by omega),ar];rw[Ou,Qc,AI (by omega)];rfl
theorem Av{l:List Rat}:(aw l).take (l.length-1)=aw l.dropLast:=by
 simp only[aw,<- List.map_take,Sq]
theorem dj{n:Nat}(h:n<=1000000000):IN.wrap ((n:Int)-1)=(n:Int)-1:=wo
theorem uK{l:List Rat}(hl:l.length<=1000000000):(decide ((0:Int)<((aw l).length:Int))=true->decide ((0:Int)<((aw l).length:Int))=true/\NOK (nth NT (aw l) (IN.wrap (((aw l).length:Int)-1))))/\
  (decide ((0:Int)<((aw l).length:Int))=true->decide ((0:Int)<((aw l).length:Int))=true/\0<=IN.wrap (((aw l).length:Int)-1)/\IN.wrap (((aw l).length:Int)-1)<((aw l).length:Int)):=by
 rw[aq,dj hl];constructor
 ·intro h;have h1:=of_decide_eq_true h;have e:(l.length:Int)-1=((l.length-1:Nat):Int):=by omega
  exact⟨h,by rw[e,lM (by omega)];exact aX _⟩
 ·intro h;have h1:=of_decide_eq_true h;exact⟨h,by omega,by omega⟩
theorem G1{l:List Rat}(hl:l.length<=1000000000)(hb:(0:Int)<((aw l).length:Int))(hc:bq (an (nth NT (aw l) (IN.wrap (((aw l).length:Int)-1)))).num 0=0):0<l.length/\l.getLastD 0=0:=by
 rw[aq] at hb hc;rw[dj hl,yf (by omega),sign_zero] at hc;exact⟨by omega,hc⟩
theorem G2{l:List Rat}(hl:l.length<=1000000000)(hb:(0:Int)<((aw l).length:Int)-> ¬bq (an (nth NT (aw l) (IN.wrap (((aw l).length:Int)-1)))).num 0=0):br l=l:=by
 rw[aq] at hb;by_cases h:l=[];·subst h;rfl
 ·have h1:=By.2 h;have h2:=hb (by omega);rw[dj hl,yf (by omega),sign_zero] at h2;exact rV h h2
theorem uL{l l0:List Rat}(hl:l.length<=1000000000)(g1:l.length<=l0.length)(g2:∀x∈l,lq x<=QC)(g3:br l=br l0)(h:0<l.length/\l.getLastD 0=0):
  OM (IN.wrap (((aw l).length:Int)-1)).toNat (aw l)=aw l.dropLast/\l.dropLast.length<=l0.length/\(∀x∈l.dropLast,lq x<=QC)/\br l.dropLast=br l0/\l.dropLast.length<l.length:=by
 rw[aq,dj hl,show ((l.length:Int)-1).toNat=l.length-1 by omega];refine⟨Av,by rw[PO];omega,fun x hx=>g2 x (Qm _ hx),?_,by rw[PO];omega⟩;rw[<- g3,mz (By.1 h.1) h.2]
theorem Jw{free fr:List Nat}(h:(free.all fun k=>fr.contains (k-ioB))=true):∀k,ioB<=k->free.contains k=true->fr.contains (k-ioB)=true:=fun k _ hk=>
 Ob.1 h k (by simpa using hk)
theorem G3{B:av}{P:Program}{f:FuncId}{c:Con}{fr:List Nat}(h:Valid B P f c):Valid B P f c fr:=by
 intro args os C rs os' hc hC O w vals ρ0 hOn hIo hO hOI hargs hown hap;refine(h args os C rs os' hc hC O w vals ρ0 hOn hIo hO hOI hargs hown hap).mono ?_;rintro e w' ⟨vs,ρ1,h1,h2,h3,h4,h5⟩;exact⟨vs,ρ1,h1,h2,h3,fun k _=>h4 k (fun e=>by simp at e),h5⟩
def QH:Nat:=40000000000
def cf(l:List Rat)(i:Nat):Rat:=l.getD i 0
theorem gu{p:List ND}{k:Nat}{i:Nat}(h:Sz k p)(hi:i<p.length):nth NT p (i:Int)=aG (cf (ab p) i):=by
 obtain⟨l,rfl,hl⟩:=h.ex;rw[aq] at hi;rw[lM hi,aA];unfold cf;rw[sh,AI hi];rfl
theorem Lt{p:List ND}{i:Nat}(hi:¬i<p.length):cf (ab p) i=0:=by
 unfold cf;rw[sh,OA (by rw[az];omega)];rfl
theorem ig:lq 0<=1:=by
 unfold lq;rw[show (0:Rat).num=0 from rfl,show (0:Rat).den=1 from rfl,lL];show max 0 (lw 1)<=1;rw[jn];decide
theorem Sz.cf{p:List ND}{k:Nat}(h:Sz k p)(hk:1<=k)(i:Nat):lq (cf (ab p) i)<=k:=by
 by_cases hi:i<p.length
 ·have h1:=gu h hi;have h2:=(h _ (At (t:=NT) hi)).2;rw[h1,ar] at h2;exact h2
 ·rw[Lt hi];exact Og ig hk
def eB(op:Rat->Rat->Rat)(l m:List Rat)(n:Nat):List Rat:=(Pa n).map fun i=>op (cf l i) (cf m i)
def ct(op:Rat->Rat->Rat)(l m:List Rat):List Rat:=br (eB op l m (max l.length m.length))
theorem uM(l:List Rat)(x:Rat):aw (l++ [x])=aw l++ [aG x]:=by simp[aw]
theorem jb(op:Rat->Rat->Rat)(l m:List Rat)(k:Nat):(eB op l m k).length=k:=by simp[eB]
theorem M9:QH<=QC:=by unfold QH QC;omega
def QM:Nat:=400000000
def cz(out:List Rat)(i:Nat)(a:Rat)(q:List Rat):Nat->List Rat
 |0=>out
 |k+1=>(cz out i a q k).set (i+k) (cf (cz out i a q k) (i+k)+a*cf q k)
def mulN(p q:List Rat):Nat->List Rat
 |0=>N6 (p.length+q.length-1) 0
 |i+1=>cz (mulN p q i) i (cf p i) q q.length
def bx(p q:List Rat):List Rat:=if p=[]∨q=[] then [] else mulN p q p.length
theorem iG(out:List Rat)(i:Nat)(a:Rat)(q:List Rat)(k:Nat):(cz out i a q k).length=out.length:=by
 induction k with
 |zero=>rfl
 |succ k ih=>rw[cz,PR,ih]
theorem ea(p q:List Rat)(i:Nat):(mulN p q i).length=p.length+q.length-1:=by
 induction i with
 |zero=>simp[mulN]
 |succ i ih=>rw[mulN,iG,ih]
theorem G4(l:List Rat)(i j:Nat)(x:Rat):cf (l.set i x) j=if i=j/\i<l.length then x else cf l j:=by
 unfold cf;simp only[sh,Ra];by_cases h:i=j
 ·subst h;by_cases h2:i<l.length;·simp[h2]
  ·simp[h2,OA (by omega:l.length<=i)]
 ·simp[h]
theorem rW{l:List Rat}{i:Nat}(h:i<l.length):cf l i∈l:=by
 unfold cf;rw[sh,AI h];exact OE h
theorem yh{l:List Rat}{k:Nat}(h:∀x∈l,lq x<=k)(hk:1<=k)(i:Nat):lq (cf l i)<=k:=by
 by_cases hi:i<l.length
 ·exact h _ (rW hi)
 ·unfold cf;rw[sh,OA (by omega)];exact Og ig hk
theorem Lu{l:List Rat}{k:Nat}(h:∀i,i<l.length->lq (cf l i)<=k):∀x∈l,lq x<=k:=by
 intro x hx;obtain⟨i,hi,rfl⟩:=List.getElem_of_mem hx;have:=h i hi;unfold cf at this;rw[sh,AI hi] at this;exact this
theorem jc(out:List Rat)(i:Nat)(a:Rat)(q:List Rat)(k n:Nat)(hl:i+k<=out.length):cf (cz out i a q k) n=if i<=n/\n<i+k then cf out n+a*cf q (n-i) else cf out n:=by
 induction k with
 |zero=>simp[cz];intro h1 h2;omega
 |succ k ih=>
  have ih:=ih (by omega);rw[cz,G4,iG];by_cases h:i+k=n
  ·rw[if_pos ⟨h,by omega⟩];have e:cf (cz out i a q k) (i+k)=cf out (i+k):=by
    have h2:∀n,n=i+k->cf (cz out i a q k) n=cf out n:=by
     intro n hn;have:=ih;clear this;rw[show cf (cz out i a q k) n=cf (cz out i a q k) n from rfl];subst hn;subst h;rw[ih,if_neg (by omega)]
    exact h2 _ rfl
   rw[e,h,if_pos (by omega),show n-i=k by omega]
  ·(rw[if_neg (by omega),ih];by_cases h2:i<=n/\n<i+k;·rw[if_pos h2,if_pos (by omega)]);·rw[if_neg h2,if_neg (by omega)]
theorem wB{out:List Rat}{i:Nat}{a:Rat}{q:List Rat}{k m K:Nat}(hl:i+k<=out.length)(h:∀x∈out,lq x<=m)(hm:1<=m)(ha:lq a<=K)(hq:∀n,lq (cf q n)<=K):∀x∈cz out i a q k,lq x<=m+(2*K+1):=by
 refine Lu fun n hn=>?_;rw[jc _ _ _ _ _ _ hl];have h1:=yh h hm n;split;·have h2:=j8 (cf out n) (a*cf q (n-i));have h3:=mv a (cf q (n-i));have h4:=hq (n-i);omega
 ·omega
theorem Lv{p q:List Rat}{K:Nat}(hp:∀n,lq (cf p n)<=K)(hq:∀n,lq (cf q n)<=K):∀i,i<=p.length->∀x∈mulN p q i,lq x<=1+i*(2*K+1):=by
 intro i;induction i with
 |zero=>
  intro _ x hx;rw[mulN] at hx;rw[(P0.1 hx).2];exact Og ig (by omega)
 |succ i ih=>
  intro hi x hx;rw[mulN] at hx;by_cases hq0:q=[];·subst hq0;have:=ih (by omega) x hx;rw[O7];omega
  ·have hql:=By.2 hq0;have:=wB (by rw[ea];omega) (ih (by omega)) (by omega) (hp i) hq x hx;rw[O7];omega
theorem yi(n:Nat)(x:Rat):aw (N6 n x)=N6 n (aG x):=by simp[aw]
theorem nA(l:List Rat)(i:Nat)(x:Rat):(aw l).set i (aG x)=aw (l.set i x):=by simp[aw,List.map_set]
theorem G5{p q:List ND}(h:(((p.length:Int)==0)||((q.length:Int)==0))=false):0<p.length/\0<q.length:=by
 simp only[PN,beq_eq_false_iff_ne] at h;omega
theorem Ex{p q:List ND}(h:(((p.length:Int)==0)||((q.length:Int)==0))=true): []=aw (bx (ab p) (ab q)):=by
 simp only[OT,beq_iff_eq] at h;unfold bx;rw[if_pos (h.imp (fun h=>N7 (by rw[az];omega)) (fun h=>N7 (by rw[az];omega)))];rfl
theorem uN{p q:List ND}(hl1:p.length<=100)(hl2:q.length<=100)(h:0<p.length/\0<q.length):IN.wrap (IN.wrap ((p.length:Int)+(q.length:Int))-1)=((p.length+q.length-1:Nat):Int):=by
 rw[wi (x:=(p.length:Int)+(q.length:Int)) (by omega) (by omega),wo];omega
theorem times_start(p q:List ND):N6 (p.length+q.length-1) (aG 0)=aw (mulN (ab p) (ab q) 0):=by
 rw[mulN,yi,az,az]
theorem oE{p q:List ND}(hp:Sz QM p)(hq:Sz QM q)(hl:p.length<=100)(h0:0<p.length/\0<q.length){i k:Nat}(hi:i<p.length)(hk:k<=q.length):∀x∈cz (mulN (ab p) (ab q) i) i (cf (ab p) i) (ab q) k,lq x<=81000000000:=by
 intro x hx;have e:QM=400000000:=rfl;have h1:=Lv (p:=ab p) (q:=ab q) (K:=QM) (fun n=>hp.cf (by omega) n) (fun n=>hq.cf (by omega) n) i (by rw[az];omega);have h2:=wB (q:=ab q) (k:=k) (by rw[ea,az,az];omega) h1 (by omega) (hp.cf (by omega) i) (fun n=>hq.cf (by omega) n) x hx;have h3:i*(2*QM+1)<=99*(2*QM+1):=Nat.mul_le_mul_right _ (by omega);omega
theorem Aw{p q:List ND}(hp:Sz QM p)(hq:Sz QM q)(hl:p.length<=100)(hl2:q.length<=100)(h0:0<p.length/\0<q.length){i k:Nat}(hi:i<p.length)(hk:k<q.length):
  IN.wrap ((i:Int)+(k:Int))=((i+k:Nat):Int)/\i+k<(aw (cz (mulN (ab p) (ab q) i) i (cf (ab p) i) (ab q) k)).length/\dZ (aG (cf (ab p) i)) (aG (cf (ab q) k))/\
  dZ (nth NT (aw (cz (mulN (ab p) (ab q) i) i (cf (ab p) i) (ab q) k)) ((i+k:Nat):Int)) (aG (cf (ab p) i*cf (ab q) k)):=by
 have hlen:(cz (mulN (ab p) (ab q) i) i (cf (ab p) i) (ab q) k).length=p.length+q.length-1:=by rw[iG,ea,az,az]
 have e:QM=400000000:=rfl;have e2:QC=100000000000:=rfl;have ha:=hp.cf (by omega) i;have hb:=hq.cf (by omega) k;have hm:=mv (cf (ab p) i) (cf (ab q) k);have hx:=oE hp hq hl h0 hi (QN hk) _ (rW (by rw[hlen];omega:i+k<(cz (mulN (ab p) (ab q) i) i (cf (ab p) i) (ab q) k).length));refine⟨by rw[wo];omega,by rw[aq,hlen];omega,⟨aX _,aX _,by rw[ar,ar];omega⟩,?_⟩;have hn:nth NT (aw (cz (mulN (ab p) (ab q) i) i (cf (ab p) i) (ab q) k)) ((i+k:Nat):Int)=aG (cf (cz (mulN (ab p) (ab q) i) i (cf (ab p) i) (ab q) k) (i+k)):=by
  have:=gu (p:=aw (cz (mulN (ab p) (ab q) i) i (cf (ab p) i) (ab q) k)) (i:=i+k) (gT (oE hp hq hl h0 hi (QN hk))) (by rw[aq,hlen];omega);rw[aA] at this;exact this
 rw[hn];exact⟨aX _,aX _,by rw[ar,ar];omega⟩
theorem rX{p q:List ND}(hp:Sz QM p)(hq:Sz QM q)(hl:p.length<=100)(hl2:q.length<=100)(h0:0<p.length/\0<q.length){i k:Nat}(hi:i<p.length)(hk:k<q.length):
  ∃z:Nat,IN.wrap ((k:Int)+1)=(z:Int)/\
   (aw (cz (mulN (ab p) (ab q) i) i (cf (ab p) i) (ab q) k)).set (i+k) (aG (an (nth NT (aw (cz (mulN (ab p) (ab q) i) i (cf (ab p) i) (ab q) k)) ((i+k:Nat):Int))+cf (ab p) i*cf (ab q) k))=aw (cz (mulN (ab p) (ab q) i) i (cf (ab p) i) (ab q) z)/\z<=q.length/\q.length-z<q.length-k:=by
 have hlen:(cz (mulN (ab p) (ab q) i) i (cf (ab p) i) (ab q) k).length=p.length+q.length-1:=by rw[iG,ea,az,az]
 have hn:nth NT (aw (cz (mulN (ab p) (ab q) i) i (cf (ab p) i) (ab q) k)) ((i+k:Nat):Int)=aG (cf (cz (mulN (ab p) (ab q) i) i (cf (ab p) i) (ab q) k) (i+k)):=by
  have:=gu (p:=aw (cz (mulN (ab p) (ab q) i) i (cf (ab p) i) (ab q) k)) (i:=i+k) (gT (oE hp hq hl h0 hi (QN hk))) (by rw[aq,hlen];omega);rw[aA] at this;exact this
 refine⟨k+1,by rw[wo];omega,?_,by omega,by omega⟩;rw[hn,ar,nA,cz]
theorem G6(l:List Rat)(i:Nat):l.set i (cf l i)=l:=by
 apply List.ext_getElem?;intro j;rw[Ra];by_cases h:i=j
 ·subst h;rw[if_pos rfl];unfold cf;by_cases h2:i<l.length;·rw[if_pos h2,sh,AI h2];rfl
  ·rw[if_neg h2,OA (by omega)]
 ·rw[if_neg h]
theorem rY{p q:List ND}(hl2:q.length<=100){i k:Nat}(hk:k<q.length)(hz:cf (ab p) i*cf (ab q) k=0):
  ∃z:Nat,IN.wrap ((k:Int)+1)=(z:Int)/\aw (cz (mulN (ab p) (ab q) i) i (cf (ab p) i) (ab q) k)=aw (cz (mulN (ab p) (ab q) i) i (cf (ab p) i) (ab q) z)/\z<=q.length/\q.length-z<q.length-k:=by
 refine⟨k+1,by rw[wo];omega,?_,by omega,by omega⟩;rw[cz,hz,Rat.add_zero,G6]
theorem rZ{a b:Rat}(h:(bq a.num 0 !=0)=true->bq b.num 0=0):a*b=0:=by
 by_cases ha:a=0
 ·rw[ha,Rat.zero_mul]
 ·have h1:bq a.num 0≠0:=fun e=>ha ((sign_zero a).1 e);have:=h (by rw[bne_iff_ne];exact h1);rw[(sign_zero b).1 this,Rat.mul_zero]
theorem Ey{p q:List ND}(hl:p.length<=100){i k:Nat}(hi:i<p.length)(hk:k=q.length):∃z:Nat,IN.wrap ((i:Int)+1)=(z:Int)/\aw (cz (mulN (ab p) (ab q) i) i (cf (ab p) i) (ab q) k)=aw (mulN (ab p) (ab q) z)/\z<=p.length/\p.length-z<p.length-i:=by
 refine⟨i+1,by rw[wo];omega,?_,by omega,by omega⟩;rw[mulN,az,hk]
theorem times_fin{p q:List ND}(h0:0<p.length/\0<q.length){i:Nat}(hi:i=p.length):aw (mulN (ab p) (ab q) i)=aw (bx (ab p) (ab q)):=by
 unfold bx;rw[if_neg,az,hi];rintro(h|h);·have:=congrArg If h;rw[az,OO] at this;omega
 ·have:=congrArg If h;rw[az,OO] at this;omega
theorem Jy{p q:List ND}(hl1:p.length<=100)(hl2:q.length<=100):(0:Int)<=((p.length+q.length-1:Nat):Int)/\((p.length+q.length-1:Nat):Int)<=1000:=by omega
def ao(l:List Rat):Rat:=l.getLastD 0
def bk(l:List Rat):List Rat:=l.map fun c=>c/ao l
theorem bR{l:List Rat}(h:0<l.length):ao l=cf l (l.length-1):=by
 unfold ao cf;rw[Ou,Qc,sh]
theorem yj{p:List ND}{k:Nat}(h:Sz k p)(hp:0<p.length)(hl:p.length<=1000000000):nth NT p (IN.wrap ((p.length:Int)-1))=aG (ao (ab p)):=by
 rw[dj hl,show (p.length:Int)-1=((p.length-1:Nat):Int) by omega,gu h (by omega),bR (by rw[az];omega),az]
theorem p9{p:List ND}{k:Nat}(h:Sz k p)(hk:1<=k)(hp:0<p.length):lq (ao (ab p))<=k:=by
 rw[bR (by rw[az];omega)];exact h.cf hk _
def mA(p:List ND):Prop:=Sz QH p/\p.length<=1000/\(p≠[]->ao (ab p)≠0)
theorem G7{p:List ND}(h:mA p){k:Nat}(hk:k<p.length):nth NT p (k:Int)=aG (cf (ab p) k)/\nth NT p (IN.wrap ((p.length:Int)-1))=aG (ao (ab p))/\(0<=IN.wrap ((p.length:Int)-1)/\IN.wrap ((p.length:Int)-1)<(p.length:Int))/\
  dZ (aG (cf (ab p) k)) (aG (ao (ab p)))/\ao (ab p)≠0/\Cm.Roomy 4 ((aw ((ab p).take k|>.map fun c=>c/ao (ab p))).length+1):=by
 obtain⟨h1,h2,h3⟩:=h;have e:QH=40000000000:=rfl;have e2:QC=100000000000:=rfl;have h4:=h1.cf (by omega) k;have h5:=p9 h1 (by omega) (by omega);refine⟨gu h1 hk,yj h1 (by omega) (by omega),by rw[dj (by omega)];omega,⟨aX _,aX _,by rw[ar,ar];omega⟩,h3 (by intro e;rw[e] at hk;simp at hk),?_⟩;refine wA ?_;rw[aq,List.length_map,Of,az];omega
theorem Ez{p:List ND}(h:mA p){k:Nat}(hk:k<p.length):∃z:Nat,IN.wrap ((k:Int)+1)=(z:Int)/\aw ((ab p).take k|>.map fun c=>c/ao (ab p))++ [aG (cf (ab p) k/ao (ab p))]=aw ((ab p).take z|>.map fun c=>c/ao (ab p))/\z<=p.length/\p.length-z<p.length-k:=by
 have hl:=h.2.1;refine⟨k+1,by rw[wo];omega,?_,by omega,by omega⟩;rw[<- uM,Qx (by rw[az];exact hk),QB];congr 2;unfold cf;rw[sh,AI (by rw[az];exact hk)];rfl
theorem Jz{p:List ND}{k:Nat}(hk:k=p.length):aw ((ab p).take k|>.map fun c=>c/ao (ab p))=aw (bk (ab p)):=by
 rw[Oj (by rw[az];omega)];rfl
def kY(l:List Rat)(n:Nat):List Rat:=(Pa (n-1)).map fun i=>cf l (i+1)*Ox ((i+1:Nat):Int) 1
def a7(l:List Rat):List Rat:=kY l l.length
theorem EA(l:List Rat)(k:Nat):kY l (k+1+1)=kY l (k+1)++ [cf l (k+1)*Ox ((k+1:Nat):Int) 1]:=by
 unfold kY;rw[show k+1+1-1=k+1 by omega,show k+1-1=k by omega,List.range_succ,QB];rfl
theorem mB{n:Int}(h:I64 n):lq (Ox n 1)<=3:=by
 have:=rL n 1 (by decide);have h2:=GM h;rw[jn] at this;omega
theorem G8{p:List ND}(h1:Sz QH p)(hl:p.length<=1000){k:Nat}(hk:k<p.length):(I64 (k:Int)/\I64 1/\(1:Int)≠0)/\nth NT p (k:Int)=aG (cf (ab p) k)/\dZ (aG (cf (ab p) k)) (aG (Ox (k:Int) 1))/\Cm.Roomy 4 ((aw (kY (ab p) k)).length+1):=by
 have hi:I64 (k:Int):=by unfold I64;omega
 have e:QH=40000000000:=rfl;have e2:QC=100000000000:=rfl;have h4:=h1.cf (by omega) k;have h5:=mB hi;refine⟨⟨hi,by unfold I64;omega,by decide⟩,gu h1 hk,⟨aX _,aX _,by rw[ar,ar];omega⟩,wA ?_⟩;rw[aq];simp[kY];omega
theorem uO{p:List ND}(hl:p.length<=1000){k:Nat}(hk:k<p.length)(h0:0<k):∃z:Nat,IN.wrap ((k:Int)+1)=(z:Int)/\aw (kY (ab p) k)++ [aG (cf (ab p) k*Ox (k:Int) 1)]=aw (kY (ab p) z)/\z<=p.length/\p.length-z<p.length-k:=by
 refine⟨k+1,by rw[wo];omega,?_,by omega,by omega⟩;obtain⟨j,rfl⟩:∃j,k=j+1:=⟨k-1,by omega⟩;rw[EA,uM]
theorem yk{p:List ND}(hl:p.length<=1000){k:Nat}(hk:k<p.length)(h0:k=0):∃z:Nat,IN.wrap ((k:Int)+1)=(z:Int)/\aw (kY (ab p) k)=aw (kY (ab p) z)/\z<=p.length/\p.length-z<p.length-k:=by
 subst h0;exact⟨1,by rw[wo];omega,rfl,by omega,by omega⟩
def ae(l:List Rat)(x:Rat):Rat:=l.foldr (fun c v=>v*x+c) 0
theorem JA{l:List Rat}{x:Rat}{K:Nat}(hl:∀c∈l,lq c<=K)(hx:lq x<=K):lq (ae l x)<=1+l.length*(2*K+1):=by
 induction l with
 |nil=>exact Og ig (by omega)
 |cons c l ih=>
  have h1:=ih (fun d hd=>hl d (List.mem_cons_of_mem _ hd));have h2:=hl c (List.mem_cons_self ..);have e:ae (c::l) x=ae l x*x+c:=rfl;have h3:=j8 (ae l x*x) c;have h4:=mv (ae l x) x;rw[e,Oo,O7];omega
def QD:Nat:=10000000000
def cp(q r:List Rat):List Rat:=cz r (r.length-q.length) (-(ao r/ao q)) q q.length
def eW(q:List Rat):Nat->List Rat->List Rat->List Rat×List Rat
 |0,r,s=>(s,r)
 |n+1,r,s=>if q.length<=r.length then eW q n (br (cp q r)) (s.set (r.length-q.length) (ao r/ao q)) else (s,r)
def divN(p q:List Rat):List Rat×List Rat:=eW q (p.length+1) p (N6 (p.length+1-q.length) 0)
def oF(q:List Rat):Nat->List Rat->Prop
 |0,_=>True
 |n+1,r=>(∀x∈r,lq x<=QD)/\(q.length<=r.length->oF q n (br (cp q r)))
structure eb (p q:List ND):Prop where
 hp:∀x∈p,NOK x
 hq:Sz QD q
 l1:p.length<=900
 l2:q.length<=900
 h0:0<q.length
 hl:ao (ab q)≠0
 safe:oF (ab q) (p.length+1) (ab p)
theorem jG(l:List Rat):(br l).length<=l.length:=by
 induction l with
 |nil=>simp[br]
 |cons x l ih=>
  simp only[br];split;·split<;>simp
  ·rename_i y m h;rw[h] at ih;simp only[Oo] at ih ⊢;omega
theorem pK{l:List Rat}(h:0<l.length)(h0:ao l=0):(br l).length<l.length:=by
 rw[mz (By.1 h) h0];have:=jG l.dropLast;rw[PO] at this;omega
theorem eL(q r:List Rat):(cp q r).length=r.length:=iG _ _ _ _ _
theorem wC{q r:List Rat}(hq:0<q.length)(h:q.length<=r.length)(h0:ao q≠0):ao (cp q r)=0:=by
 rw[bR (by rw[eL];omega),eL];unfold cp;rw[jc _ _ _ _ _ _ (by omega),if_pos (by omega),show r.length-1-(r.length-q.length)=q.length-1 by omega,<- bR hq,<- bR (by omega)];grind
theorem fo{q r:List Rat}(hq:0<q.length)(h:q.length<=r.length)(h0:ao q≠0):(br (cp q r)).length<r.length:=by
 have:=pK (l:=cp q r) (by rw[eL];omega) (wC hq h h0);rwa [eL] at this
structure DivPhi (p q:List ND) (n:Nat) (r s:List Rat):Prop where
 eq:eW (ab q) n r s=divN (ab p) (ab q)
 fuel:r.length<n
 safe:oF (ab q) n r
 lr:r.length<=p.length
 ls:s.length=p.length+1-q.length
theorem div_start{p q:List ND}(h:eb p q):DivPhi p q (p.length+1) (ab p) (N6 (p.length+1-q.length) 0):=by
 refine⟨?_,by rw[az];omega,h.safe,by rw[az];exact Oa _,by simp⟩;unfold divN;rw[az,az]
theorem eb.enc{p q:List ND}(h:eb p q):aw (ab p)=p:=by
 simp only[ab,aw,QW];conv=>rhs;rw[<- Rs p]
 exact Pw fun x hx=>h.hp x hx
theorem DivPhi.bound{p q:List ND}{n:Nat}{r s:List Rat}(h:DivPhi p q n r s):∀x∈r,lq x<=QD:=by
 have h1:=h.safe;have h2:=h.fuel;match n,h1 with
 |n+1,h1=>exact h1.1
theorem div_next{p q:List ND}{n:Nat}{r s:List Rat}(ho:eb p q)(h:DivPhi p q n r s)(hl:q.length<=r.length):
  ∃m,DivPhi p q m (br (cp (ab q) r)) (s.set (r.length-q.length) (ao r/ao (ab q))):=by
 have h2:=h.fuel;have h1:=h.safe;have he:=h.eq;have hs:=fo (q:=ab q) (r:=r) (by rw[az];exact ho.h0) (by rw[az];exact hl) ho.hl;match n,h1,he,h2 with
 |n+1,h1,he,h2=>
  rw[eW,if_pos (by rw[az];exact hl),az] at he;exact⟨n,he,by omega,h1.2 (by rw[az];exact hl),by have:=h.lr;omega,by rw[PR];exact h.ls⟩
theorem div_end{p q:List ND}{n:Nat}{r s:List Rat}(h:DivPhi p q n r s)(hl:¬q.length<=r.length):(s,r)=divN (ab p) (ab q):=by
 have h2:=h.fuel;have he:=h.eq;match n,he,h2 with
 |n+1,he,h2=>
  rw[eW,if_neg (by rw[az];exact hl)] at he;exact he
theorem Ax{l:List Rat}{k:Nat}(hk:k<l.length):nth NT (aw l) (k:Int)=aG (cf l k):=by
 rw[lM hk];unfold cf;rw[sh,AI hk];rfl
theorem JB{l:List Rat}(h:0<l.length)(hl:l.length<=1000000000):nth NT (aw l) (IN.wrap (((aw l).length:Int)-1))=aG (ao l):=by
 rw[aq,dj hl,show (l.length:Int)-1=((l.length-1:Nat):Int) by omega,Ax (by omega),<- bR h]
theorem Na{p q:List ND}{n:Nat}{r s:List Rat}(ho:eb p q)(h:DivPhi p q n r s)(hl:q.length<=r.length):IN.wrap (((aw r).length:Int)-(q.length:Int))=((r.length-q.length:Nat):Int):=by
 have h1:=h.lr;have h2:=ho.l1;rw[aq,wo];omega
theorem Nb{p q:List ND}{n:Nat}{r s:List Rat}(ho:eb p q)(h:DivPhi p q n r s)(hl:q.length<=r.length):
  (0<=IN.wrap (((aw r).length:Int)-1)/\IN.wrap (((aw r).length:Int)-1)<((aw r).length:Int))/\(IN.wrap (((aw r).length:Int)-1)).toNat<(aw r).length/\
  (0<=IN.wrap ((q.length:Int)-1)/\IN.wrap ((q.length:Int)-1)<(q.length:Int))/\nth NT (aw r) (IN.wrap (((aw r).length:Int)-1))=aG (ao r)/\nth NT q (IN.wrap ((q.length:Int)-1))=aG (ao (ab q))/\
  dZ (aG (ao r)) (aG (ao (ab q))):=by
 have h1:=h.lr;have h2:=ho.l1;have h3:=ho.h0;have h4:=ho.l2;have e:QD=10000000000:=rfl;have e2:QC=100000000000:=rfl;have hb:=yh h.bound (by omega) (r.length-1);rw[<- bR (by omega)] at hb;have hc:=p9 ho.hq (by omega) h3;have hw:IN.wrap (((aw r).length:Int)-1)=(r.length:Int)-1:=by rw[aq,dj (by omega)]
 refine⟨by rw[hw,aq];omega,by rw[hw,aq];omega,by rw[dj (by omega)];omega,JB (by omega) (by omega),yj ho.hq h3 (by omega),aX _,aX _,?_⟩;rw[ar,ar];omega
theorem G9{p q:List ND}{n:Nat}{r s:List Rat}(ho:eb p q)(h:DivPhi p q n r s)(hl:q.length<=r.length){i:Nat}(hi:i<q.length):
  IN.wrap (((r.length-q.length:Nat):Int)+(i:Int))=((r.length-q.length+i:Nat):Int)/\r.length-q.length+i<(aw (cz r (r.length-q.length) (-(ao r/ao (ab q))) (ab q) i)).length/\nth NT q (i:Int)=aG (cf (ab q) i)/\
  nth NT (aw (cz r (r.length-q.length) (-(ao r/ao (ab q))) (ab q) i)) ((r.length-q.length+i:Nat):Int)=aG (cf (cz r (r.length-q.length) (-(ao r/ao (ab q))) (ab q) i) (r.length-q.length+i))/\
  dZ (aG (ao r/ao (ab q))) (aG (cf (ab q) i))/\dZ (aG (cf (cz r (r.length-q.length) (-(ao r/ao (ab q))) (ab q) i) (r.length-q.length+i))) (aG (ao r/ao (ab q)*cf (ab q) i)):=by
 have h1:=h.lr;have h2:=ho.l1;have h3:=ho.h0;have h4:=ho.l2;have e:QD=10000000000:=rfl;have e2:QC=100000000000:=rfl;have hb:=yh h.bound (by omega) (r.length-1);rw[<- bR (by omega)] at hb;have hc:=p9 ho.hq (by omega) h3;have hd:=mw (ao r) (ao (ab q));have hqi:=ho.hq.cf (by omega) i;have hm:=mv (ao r/ao (ab q)) (cf (ab q) i);have hrow:=wB (out:=r) (i:=r.length-q.length) (a:= -(ao r/ao (ab q))) (q:=ab q) (k:=i) (m:=QD) (K:=2*QD) (by omega) h.bound (by omega) (by rw[rP];omega) (fun n=>Og (ho.hq.cf (by omega) n) (by omega));have hlen:(cz r (r.length-q.length) (-(ao r/ao (ab q))) (ab q) i).length=r.length:=iG _ _ _ _ _;have hcur:lq (cf (cz r (r.length-q.length) (-(ao r/ao (ab q))) (ab q) i) (r.length-q.length+i))<=QD:=by
  rw[jc _ _ _ _ _ _ (by omega),if_neg (by omega)];exact yh h.bound (by omega) _
 refine⟨by rw[wo];omega,by rw[aq,hlen];omega,gu ho.hq hi,Ax (by rw[hlen];omega),⟨aX _,aX _,by rw[ar,ar];omega⟩,aX _,aX _,by rw[ar,ar];omega⟩
theorem JC(r:List Rat)(k:Nat)(c:Rat)(q:List Rat)(i:Nat):(aw (cz r k (-c) q i)).set (k+i) (aG (cf (cz r k (-c) q i) (k+i)-c*cf q i))=aw (cz r k (-c) q (i+1)):=by
 rw[nA,cz,SZ,Rat.neg_mul]
theorem Ha{p q:List ND}{n:Nat}{r s:List Rat}(ho:eb p q)(h:DivPhi p q n r s)(hl:q.length<=r.length):Sz QC (aw (cp (ab q) r))/\(aw (cp (ab q) r)).length<=QL:=by
 have h1:=h.lr;have h2:=ho.l1;have h3:=ho.h0;have h4:=ho.l2;have e:QD=10000000000:=rfl;have e2:QC=100000000000:=rfl;have hb:=yh h.bound (by omega) (r.length-1);rw[<- bR (by omega)] at hb;have hc:=p9 ho.hq (by omega) h3;have hd:=mw (ao r) (ao (ab q));refine⟨gT fun x hx=>?_,by rw[aq,eL];unfold QL;omega⟩;have hrow:=wB (out:=r) (i:=r.length-(ab q).length) (a:= -(ao r/ao (ab q))) (q:=ab q) (k:=(ab q).length) (m:=QD) (K:=2*QD) (by rw[az];omega) h.bound (by omega) (by rw[rP];omega) (fun n=>Og (ho.hq.cf (by omega) n) (by omega)) x hx;omega
theorem Hb{p q:List ND}{n:Nat}{r s:List Rat}(ho:eb p q)(h:DivPhi p q n r s)(hl:q.length<=r.length):
  IN.wrap (((aw r).length:Int)-1)=((r.length-1:Nat):Int)/\IN.wrap ((q.length:Int)-1)=((q.length-1:Nat):Int)/\nth NT (aw r) ((r.length-1:Nat):Int)=aG (ao r)/\nth NT q ((q.length-1:Nat):Int)=aG (ao (ab q))/\dZ (aG (ao r)) (aG (ao (ab q))):=by
 have h1:=h.lr;have h2:=ho.l1;have h3:=ho.h0;have h4:=ho.l2;obtain⟨_,_,_,_,_,h5⟩:=Nb ho h hl;refine⟨by rw[aq,dj (by omega)];omega,by rw[dj (by omega)];omega,?_,?_,h5⟩;·rw[Ax (by omega),<- bR (by omega)]
 ·rw[gu ho.hq (by omega),bR (by rw[az];omega),az]
theorem Lw{p q:List ND}(ho:eb p q):max 0 (IN.wrap (IN.wrap ((p.length:Int)-(q.length:Int))+1))=((p.length+1-q.length:Nat):Int)/\(0:Int)<=((p.length+1-q.length:Nat):Int)/\((p.length+1-q.length:Nat):Int)<=1000:=by
 have h2:=ho.l1;have h4:=ho.l2;rw[wi (x:=(p.length:Int)-(q.length:Int)) (by omega) (by omega),wo];omega
theorem wD{p q:List ND}{n:Nat}{r s:List Rat}(ho:eb p q)(h:DivPhi p q n r s)(hl:q.length<=r.length):(0:Int)<=((r.length-q.length:Nat):Int)/\((r.length-q.length:Nat):Int)<((aw s).length:Int)/\r.length-q.length<(aw s).length:=by
 have h1:=h.lr;have h2:=h.ls;rw[aq,h2];omega
theorem EB{p q:List ND}{n:Nat}{r s:List Rat}(ho:eb p q)(h:DivPhi p q n r s)(hl:q.length<=r.length):((0:Int)<=((r.length-1:Nat):Int)/\((r.length-1:Nat):Int)<((aw r).length:Int))/\r.length-1<(aw r).length/\((0:Int)<=((q.length-1:Nat):Int)/\((q.length-1:Nat):Int)<(q.length:Int))/\dZ (aG (ao r)) (aG (ao (ab q)))/\an (aG (ao (ab q)))≠0:=by
 have h3:=ho.h0;obtain⟨_,_,_,_,h5⟩:=Hb ho h hl;rw[aq,ar];exact⟨by omega,by omega,by omega,h5,ho.hl⟩
theorem EC{p q:List ND}{n:Nat}{r s:List Rat}(ho:eb p q)(h:DivPhi p q n r s)(hl:q.length<=r.length){i:Nat}(hi:i<q.length):((0:Int)<=((r.length-q.length+i:Nat):Int)/\((r.length-q.length+i:Nat):Int)<((aw (cz r (r.length-q.length) (-(ao r/ao (ab q))) (ab q) i)).length:Int))/\r.length-q.length+i<(aw (cz r (r.length-q.length) (-(ao r/ao (ab q))) (ab q) i)).length/\
  dZ (aG (ao r/ao (ab q))) (aG (cf (ab q) i))/\dZ (aG (cf (cz r (r.length-q.length) (-(ao r/ao (ab q))) (ab q) i) (r.length-q.length+i))) (aG (ao r/ao (ab q)*cf (ab q) i))/\((0:Int)<=((r.length-q.length+i:Nat):Int)/\((r.length-q.length+i:Nat):Int)<((aw (cz r (r.length-q.length) (-(ao r/ao (ab q))) (ab q) i)).length:Int))/\r.length-q.length+i<(aw (cz r (r.length-q.length) (-(ao r/ao (ab q))) (ab q) i)).length:=by
 obtain⟨_,h2,_,_,h5,h6⟩:=G9 ho h hl hi;exact⟨⟨by omega,by omega⟩,h2,h5,h6,⟨by omega,by omega⟩,h2⟩
theorem Hc{p q:List ND}{n:Nat}{r s:List Rat}(ho:eb p q){i:Nat}(hi:i<q.length):∃z:Nat,IN.wrap ((i:Int)+1)=(z:Int)/\aw (cz r (r.length-q.length) (-(ao r/ao (ab q))) (ab q) (i+1))=aw (cz r (r.length-q.length) (-(ao r/ao (ab q))) (ab q) z)/\z<=q.length/\q.length-z<q.length-i:=by
 have h4:=ho.l2;exact⟨i+1,by rw[wo];omega,rfl,by omega,by omega⟩
theorem B0{p q:List ND}{n:Nat}{r s:List Rat}{i:Nat}(hi:i=q.length):cz r (r.length-q.length) (-(ao r/ao (ab q))) (ab q) i=cp (ab q) r:=by
 unfold cp;rw[az,hi]
def df:Nat->List Rat->List Rat->List Rat
 |0,p,_=>bk p
 |n+1,p,q=>if q=[] then bk p else df n q (bk (divN p q).2)
def b6(p q:List Rat):List Rat:=df (q.length+1) p q
def Trm(l:List Rat):Prop:=l≠[]->ao l≠0
def sc:Nat->List Rat->List Rat->Prop
 |0,_,_=>True
 |n+1,p,q=>if q=[] then ∀x∈p,lq x<=QH else oF q (p.length+1) p/\(∀x∈q,lq x<=QD)/\(∀x∈(divN p q).2,lq x<=QH)/\sc n q (bk (divN p q).2)
theorem eZ:∀l:List Rat,Trm (br l)
 | []=>fun h=>absurd rfl h
 |x::l=>by
  intro h;have ih:=eZ l;simp only[br] at h ⊢;split
  ·(rename_i hl;rw[hl] at h;split;·rename_i hx;simp only[hx,if_true,ne_eq,not_true] at h);·rename_i hx;simpa [ao] using hx
  ·rename_i y m hl;rw[hl] at ih;have:=ih (by simp);simpa [ao] using this
theorem se(q:List Rat):∀(n:Nat) (r s:List Rat),Trm r->Trm (eW q n r s).2
 |0,r,s,h=>h
 |n+1,r,s,h=>by
  rw[eW];split;·exact se q n _ _ (eZ _)
  ·exact h
theorem du{p q:List Rat}(h:Trm p):Trm (divN p q).2:=se _ _ _ _ h
theorem pL{q:List Rat}(hq:0<q.length)(h0:ao q≠0):∀(n:Nat) (r s:List Rat),r.length<n->(eW q n r s).2.length<q.length
 |0,r,s,h=>absurd h (by omega)
 |n+1,r,s,h=>by
  rw[eW];split;·rename_i hl;have:=fo hq hl h0;exact pL hq h0 n _ _ (by omega)
  ·rename_i hl;simp only;omega
theorem dk{p q:List Rat}(hq:0<q.length)(h0:ao q≠0):(divN p q).2.length<q.length:=pL hq h0 _ _ _ (Nat.lt_succ_self _)
theorem bI(l:List Rat):(bk l).length=l.length:=by simp[bk]
theorem iH{l:List Rat}(h:0<l.length):ao (bk l)=ao l/ao l:=by
 rw[bR (by rw[bI];exact h),bI];conv=>rhs;arg 1;rw[bR h]
 unfold bk cf;simp only[sh,Pp];rw[AI (by omega)];rfl
theorem dJ{l:List Rat}(h:Trm l):Trm (bk l):=by
 intro hne;have hl:0<l.length:=by rw[<- bI];exact By.2 hne
 have h1:=h (By.1 hl);rw[iH hl];grind
structure sf (p q:List ND):Prop where
 hp:∀x∈p,NOK x
 hq:∀x∈q,NOK x
 l1:p.length<=900
 l2:q.length<=900
 tp:Trm (ab p)
 tq:Trm (ab q)
 safe:sc (q.length+1) (ab p) (ab q)
structure si (p q:List ND) (n:Nat) (a b:List Rat):Prop where
 eq:df n a b=b6 (ab p) (ab q)
 fuel:b.length<n
 safe:sc n a b
 ta:Trm a
 tb:Trm b
 la:a.length<=900
 lb:b.length<=900
theorem qa{p:List ND}(h:∀x∈p,NOK x):aw (ab p)=p:=by
 simp only[ab,aw,QW];conv=>rhs;rw[<- Rs p]
 exact Pw fun x hx=>h x hx
theorem ED{p q:List ND}(h:sf p q):si p q (q.length+1) (ab p) (ab q):=by
 refine⟨?_,by rw[az];omega,h.safe,h.tp,h.tq,by rw[az];exact h.l1,by rw[az];exact h.l2⟩;unfold b6;rw[az]
theorem fS(l:List Rat):∀x∈aw l,NOK x:=by
 intro x hx;obtain⟨y,_,rfl⟩:=Ot.1 hx;exact aX y
theorem Hd{p q:List ND}{n:Nat}{a b:List Rat}(h:si p q n a b)(hb:0<b.length):
  eb (aw a) (aw b)/\mA (aw (divN a b).2)/\(∃m,si p q m b (bk (divN a b).2))/\(bk (divN a b).2).length<b.length:=by
 have hbn:=By.1 hb;have h1:=h.safe;have h2:=h.eq;have h3:=h.fuel;have hl:=h.tb hbn;have hs:=dk (p:=a) hb hl;match n,h1,h2,h3 with
 |n+1,h1,h2,h3=>
  rw[sc,if_neg hbn] at h1;rw[df,if_neg hbn] at h2;obtain⟨s1,s2,s3,s4⟩:=h1;have hlb:=h.lb;refine⟨⟨fS _,gT s2,by rw[aq];exact h.la,by rw[aq];exact h.lb,by rw[aq];exact hb,by rw[aA];exact hl,by rw[aA,aA,aq];exact s1⟩,
   ⟨gT s3,by rw[aq];omega,fun hne=>?_⟩,⟨n,h2,by rw[bI];omega,s4,h.tb,dJ (du h.ta),h.lb,by rw[bI];omega⟩,by rw[bI];exact hs⟩
  rw[aA];exact du h.ta (fun e=>hne (by rw[e];rfl))
theorem JD{p q:List ND}{n:Nat}{a b:List Rat}(h:si p q n a b)(hb:¬0<b.length):mA (aw a)/\bk a=b6 (ab p) (ab q):=by
 have hbn:b=[]:=N7 (by omega);have h1:=h.safe;have h2:=h.eq;have h3:=h.fuel;match n,h1,h2,h3 with
 |n+1,h1,h2,h3=>
  rw[sc,if_pos hbn] at h1;rw[df,if_pos hbn] at h2;have hla:=h.la;refine⟨⟨gT h1,by rw[aq];omega,fun hne=>?_⟩,h2⟩;rw[aA];exact h.ta (fun e=>hne (by rw[e];rfl))
def ak(l:List Rat):List Rat:=if l=[] then [] else bk (divN l (b6 l (a7 l))).1
def pM(p:List ND):Prop:=p≠[]->Sz QH p/\p.length<=900/\sf p (aw (a7 (ab p)))/\eb p (aw (b6 (ab p) (a7 (ab p))))/\mA (aw (divN (ab p) (b6 (ab p) (a7 (ab p)))).1)
end Go.Cm
end
section
namespace Go.Cm
open Go Go.RowKit
theorem tM{P:Program}(w:World)(dT sT ty elem:TypeId)(g o dLen dCap:Nat)(a:Addr)(sLen sCap:Nat)(cur:Array Value)(t:TypeId)(cs:List Value)(size n:Nat)
  (hu:P.underlying dT=some (.slice elem)) (hs:(P.info? elem).map (·.size)=some size)
  (hg:w.heap[g]? =some (.cells cur t (0,0))) (hn:n=T6 sLen dLen) (hl0:cs.length=n*size)
  (hsrc:∀j v,cs[j]? =some v->w.cell? (a.add j)=some v) (hfit:o+cs.length<=cur.size) (h1:∀v∈cs,v.oneCell'=true):
  (Builtin.copy_ #[dT,sT] ty #[.slice (some ⟨g,o,none⟩) dLen dCap,.slice (some a) sLen sCap]).run P w=
   .ok (goInt n) (w.setRow g (cur.toList.take o++cs++cur.toList.drop (o+cs.length)).toArray):=by
 have hl:=run_loadCells_list (P:=P) w a cs hsrc;rw[hl0] at hl;have hst:=run_storeCells_at P g o t cs 0 cur w hg (by simpa using hfit) h1;cases hq:P.info? elem with
 |none=>simp[hq] at hs
 |some i=>
  have hi:i.size=size:=by simpa [hq] using hs
  simp[Builtin.copy_,run_underlying hu,Builtin.lenOf,Builtin.firstCells,sizeOf,typeInfo,hq,hi,<- hn,hl,hst]
theorem sj{P:Program}(w:World)(dT sT ty elem:TypeId)(d a:Option Addr)(dLen dCap sLen sCap:Nat)(size:Nat)(hu:P.underlying dT=some (.slice elem))(hs:(P.info? elem).map (·.size)=some size)(hn:T6 sLen dLen=0):
  (Builtin.copy_ #[dT,sT] ty #[.slice d dLen dCap,.slice a sLen sCap]).run P w= .ok (goInt 0) w:=by
 cases hq:P.info? elem with
 |none=>simp[hq] at hs
 |some i=>
  have hl:∀(x:Addr),(loadCells x 0).run P w= .ok #[] w:=fun x=>by simpa using run_loadCells_list (P:=P) w x [] (by simp)
  cases d<;>cases a<;>simp[Builtin.copy_,run_underlying hu,Builtin.lenOf,Builtin.firstCells,sizeOf,typeInfo,hq,hn,storeCells,hl]
theorem uP{P:Program}{w:World}(dT sT ty elem:TypeId)(size:Nat)(hu:P.underlying dT=some (.slice elem))(hsz:(P.info? elem).map (·.size)=some size)
  (dp sp:Option Addr) (dLen dCap sLen sCap n:Nat) (g off:Nat) (cur:List Value) (t:TypeId) (hg:w.heap[g]? =some (.cells cur.toArray t (0,0))) (cs:List Value) (hn:n=T6 sLen dLen) (hl:cs.length=n*size)
  (hpos:0<n->dp=some ⟨g,off,none⟩/\∃ad,sp=some ad/\∀j v,cs[j]? =some v->w.cell? (ad.add j)=some v)
  (hfit:off+cs.length<=cur.length) (h1:∀v∈cs,v.oneCell'=true) (B:Nat) (w0:World) (hb:Below B w0 w) (hBg:B<=g):
  ∃w',(Builtin.copy_ #[dT,sT] ty #[.slice dp dLen dCap,.slice sp sLen sCap]).run P w= .ok (goInt n) w'/\w'.heap[g]? =some (.cells (splice cur off cs).toArray t (0,0))/\Below B w0 w':=by
 by_cases h0:n=0
 ·subst h0;obtain rfl:cs=[]:=N7 (by simpa using hl);exact⟨w,sj w dT sT ty elem dp sp dLen dCap sLen sCap size hu hsz hn.symm,by simpa [splice] using hg,hb⟩
 ·obtain⟨rfl,ad,rfl,hsrc⟩:=hpos (by omega);refine⟨_,tM w dT sT ty elem g off dLen dCap ad sLen sCap cur.toArray t cs size n hu hsz hg hn hl hsrc (by simpa using hfit) h1,?_,below_setRow hb hBg _⟩;simpa [splice] using setRow_heap w g _ _ t _ hg
theorem wE{P:Program}{w:World}{ops:Array Oper}{rest:List Oper}{o:Oper}{a:Act}{Q:Exit->Act->World->Prop}(hgd:o.guard=none)(d s:Operand)(dT sT:TypeId)
  (ho:o.op= .call {callee:= .builtin .copy,args:= #[d,s],argTypes:= #[dT,sT]}) (elem:TypeId) (size:Nat) (hu:P.underlying dT=some (.slice elem)) (hsz:(P.info? elem).map (·.size)=some size)
  (dp sp:Option Addr) (dLen dCap sLen sCap n:Nat) (hd:a.eval d= .slice dp dLen dCap) (hs:a.eval s= .slice sp sLen sCap)
  (g off:Nat) (cur:List Value) (t:TypeId) (hg:w.heap[g]? =some (.cells cur.toArray t (0,0))) (cs:List Value) (hn:n=T6 sLen dLen) (hl:cs.length=n*size)
  (hpos:0<n->dp=some ⟨g,off,none⟩/\∃ad,sp=some ad/\∀j v,cs[j]? =some v->w.cell? (ad.add j)=some v)
  (hfit:off+cs.length<=cur.length) (h1:∀v∈cs,v.oneCell'=true) (B:Nat) (w0:World) (hb:Below B w0 w) (hBg:B<=g)
  (h:∀w',Hid (w'.heap[g]? =some (.cells (splice cur off cs).toArray t (0,0)))->Below B w0 w'->wpList P ops Q rest (a.put o.dst (goInt n)) w'):
  wpList P ops Q (o::rest) a w:=by
 refine wpList_plain hgd fun K hK=>?_;obtain⟨w',hrun,hg',hb'⟩:=uP dT sT o.type elem size hu hsz dp sp dLen dCap sLen sCap n g off cur t hg cs hn hl hpos hfit h1 B w0 hb hBg;unfold Oper.wp;simp[execOp,ho,resolve,invoke,builtin,hd,hs,hrun,Result.andThen];exact hK _ _ (h w' hg' hb')
theorem Ay{P:Program}{ops:Array Oper}{o:Oper}{a:Act}{w:World}{K:Act->World->Prop}{Q:Exit->Act->World->Prop}{E:Prop}(hgd:o.guard=none)(d s:Operand)(dT sT:TypeId)
  (ho:o.op= .call {callee:= .builtin .copy,args:= #[d,s],argTypes:= #[dT,sT]}) (elem:TypeId) (size:Nat) (hu:P.underlying dT=some (.slice elem)) (hsz:(P.info? elem).map (·.size)=some size)
  (dp sp:Option Addr) (dLen dCap sLen sCap n:Nat) (hd:a.eval d= .slice dp dLen dCap) (hs:a.eval s= .slice sp sLen sCap)
  (g off:Nat) (cur:List Value) (t:TypeId) (hg:w.heap[g]? =some (.cells cur.toArray t (0,0))) (cs:List Value) (hn:n=T6 sLen dLen) (hl:cs.length=n*size)
  (hpos:0<n->dp=some ⟨g,off,none⟩/\∃ad,sp=some ad/\∀j v,cs[j]? =some v->w.cell? (ad.add j)=some v)
  (hfit:off+cs.length<=cur.length) (h1:∀v∈cs,v.oneCell'=true) (B:Nat) (w0:World) (hb:RowKit.Below B w0 w) (hBg:B<=g)
  (h:∀w',RowKit.Hid (w'.heap[g]? =some (.cells (splice cur off cs).toArray t (0,0)))->RowKit.Below B w0 w'->K (a.put o.dst (goInt n)) w'):
  if Region.wanted o (yielded ops a.tmps)=true then Oper.wp P o a w K Q else E:=by
 have hw:Region.wanted o (yielded ops a.tmps)=true:=by simp[Region.wanted,hgd]
 rw[if_pos hw];obtain⟨w',hrun,hg',hb'⟩:=uP dT sT o.type elem size hu hsz dp sp dLen dCap sLen sCap n g off cur t hg cs hn hl hpos hfit h1 B w0 hb hBg;unfold Oper.wp;simp[execOp,ho,resolve,invoke,builtin,hd,hs,hrun,Result.andThen];exact h w' hg' hb'
def cG(n:Nat)(l:List Value):List Value:=(N6 n l).flatten
theorem eM(n:Nat)(l:List Value):(cG n l).length=n*l.length:=by simp[cG]
theorem sk(m n:Nat)(l:List Value):cG (m+n) l=cG m l++cG n l:=by simp only[cG,<- List.flatten_append,List.replicate_append_replicate]
theorem yl{n:Nat}{l:List Value}{v:Value}(h:v∈cG n l):v∈l:=by
 obtain⟨x,hx,hv⟩:=List.mem_flatten.1 h;rw[(P0.1 hx).2] at hv;exact hv
theorem pN{A B:List Value}(hAB:A.length=B.length){n k m:Nat}(hm:m<=n-k):splice (cG k A++cG (n-k) B) (k*A.length) (cG m A)=cG (k+m) A++cG (n-(k+m)) B:=by
 have hl:(cG k A).length=k*A.length:=eM _ _;have e1:(cG k A++cG (n-k) B).take (k*A.length)=cG k A:=by rw[<- hl,List.take_left]
 have e2:(cG k A++cG (n-k) B).drop (k*A.length+(cG m A).length)=cG (n-(k+m)) B:=by
  rw[<- PH,<- hl,RH,eM,show n-k=m+(n-(k+m)) by omega,sk,hAB,<- eM m B,RH]
 simp only[splice,e1,e2];rw[<- O4,<- sk]
end Go.Cm
end
section
namespace Go.Proofs
open Go.Shelf
open Go.RowKit in
def Tryz.laysB145_ren:Go.Shelf.Ren:=⟨fun|145=>149|217=>220|219=>205|220=>188|224=>222|225=>221|266=>232|267=>223|314=>233|n=>n,fun|46=>210|51=>138|59=>188|146=>232|n=>n,fun|1=>2|n=>n⟩
theorem Tryz.laysB145:Go.Proofs.Lays.n145 Tryz.prog Tryz.laysB145_ren:={
 mixed:=by kernel_rfl
 f145:=Tryz.func149.trans (congrArg some (by kernel_rfl))
 f217:=Tryz.func220.trans (congrArg some (by kernel_rfl))
 f219:=Tryz.func205.trans (congrArg some (by kernel_rfl))
 f220:=Tryz.func188.trans (congrArg some (by kernel_rfl))
 f224:=Tryz.func222.trans (congrArg some (by kernel_rfl))
 f225:=Tryz.func221.trans (congrArg some (by kernel_rfl))
 f266:=Tryz.func232.trans (congrArg some (by kernel_rfl))
 f267:=Tryz.func223.trans (congrArg some (by kernel_rfl))
 f314:=Tryz.func233.trans (congrArg some (by kernel_rfl))
 t3:=Tryz.underlying3
 a3:=Tryz.isAgg3
 z3:=Tryz.sizeOf3
 v3:=Tryz.zeroValue3
 t4:=Tryz.underlying4
 a4:=Tryz.isAgg4
 z4:=Tryz.sizeOf4
 v4:=Tryz.zeroValue4
 t5:=Tryz.underlying5
 a5:=Tryz.isAgg5
 z5:=Tryz.sizeOf5
 v5:=Tryz.zeroValue5
 t9:=Tryz.underlying9
 a9:=Tryz.isAgg9
 z9:=Tryz.sizeOf9
 v9:=Tryz.zeroValue9
 t46:=Tryz.underlying210
 a46:=Tryz.isAgg210
 z46:=Tryz.sizeOf210
 v46:=Tryz.zeroValue210
 t51:=Tryz.underlying138
 a51:=Tryz.isAgg138
 z51:=Tryz.sizeOf138
 v51:=Tryz.zeroValue138
 t59:=Tryz.underlying188
 a59:=Tryz.isAgg188
 z59:=Tryz.sizeOf188
 v59:=Tryz.zeroValue188
 t146:=Tryz.underlying232
 a146:=Tryz.isAgg232
 z146:=Tryz.sizeOf232
 v146:=Tryz.zeroValue232
 g1:=by kernel_rfl}
open Go.RowKit Go.Lib in
theorem Tryz.strings_Cut(s sep:ByteArray)(m:Int)(w:World)(hs:s.size<4294967281)(hm:w.cell? ⟨2,0,none⟩=some (.int .i64 m)):
  Calls Tryz.prog 149 #[.string s,.string sep] w fun e w'=>e= .returned (.tuple #[.string ⟨(T5 s.data.toList sep.data.toList).1.toArray⟩,.string ⟨(T5 s.data.toList sep.data.toList).2.1.toArray⟩,.bool (T5 s.data.toList sep.data.toList).2.2])/\∃n,w'=w.drewN n:=Any.strings_Cut Tryz.laysB145 s sep m w hs hm
open Go.RowKit Go.Lib in
def Tryz.laysB212_ren:Go.Shelf.Ren:=⟨fun|212=>173|263=>197|264=>198|n=>n,fun|46=>210|51=>138|53=>190|146=>232|148=>234|n=>n,fun|n=>n⟩
theorem Tryz.laysB212:Go.Proofs.Lays.n212 Tryz.prog Tryz.laysB212_ren:={
 mixed:=by kernel_rfl
 f212:=Tryz.func173.trans (congrArg some (by kernel_rfl))
 f263:=Tryz.func197.trans (congrArg some (by kernel_rfl))
 f264:=Tryz.func198.trans (congrArg some (by kernel_rfl))
 t46:=Tryz.underlying210
 a46:=Tryz.isAgg210
 z46:=Tryz.sizeOf210
 v46:=Tryz.zeroValue210
 t51:=Tryz.underlying138
 a51:=Tryz.isAgg138
 z51:=Tryz.sizeOf138
 v51:=Tryz.zeroValue138
 t53:=Tryz.underlying190
 a53:=Tryz.isAgg190
 z53:=Tryz.sizeOf190
 v53:=Tryz.zeroValue190
 t146:=Tryz.underlying232
 a146:=Tryz.isAgg232
 z146:=Tryz.sizeOf232
 v146:=Tryz.zeroValue232
 t148:=Tryz.underlying234
 a148:=Tryz.isAgg234
 z148:=Tryz.sizeOf234
 v148:=Tryz.zeroValue234}
open Go.RowKit Go.Lib in
theorem Tryz.bits_Mul(x y:Nat)(hx:x<18446744073709551616)(hy:y<18446744073709551616)(w:World):
  Calls Tryz.prog 173 #[.int .u64 x,.int .u64 y] w fun e w'=>e= .returned (.tuple #[.int .u64 ((x*y/18446744073709551616:Nat):Int),.int .u64 ((x*y%18446744073709551616:Nat):Int)])/\w'=w:=Any.bits_Mul Tryz.laysB212 x y hx hy w
end Go.Proofs
end