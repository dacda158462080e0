/- Proved: the law WholeCommon returns true for every three drafts. Conditions: those of its row alone (the package-level variables that the row lists start as the program lays them). -/
import Derived.Test.YtkgbdpmhdplddaaDoorQ3
import Derived.Test.YtkgbdpmhdplddaaDoorQ4
import Derived.Test.YtkgbdpmhdplddaaDoorProg
import Derived.Test.YtkgbdpmhdplddaaDoorQ5
import Derived.WalkKit
set_option linter.all false
set_option linter.unusedSimpArgs false
set_option linter.unusedVariables false

section
/- The functions of the package exact, one after the other: each meets its contract. -/
set_option linter.unusedSimpArgs false
set_option linter.unusedVariables false
set_option maxRecDepth 100000
namespace Go.Proofs.YtkgbdpmhdplddaaDoor
open Go Go.Cm Go.Proofs

def tab5 (B : Base) : Tab := { types := [(9, .str), (24, (.st (.pair .bool (.pair (.slice (.int .u8)) (.int .u8))))), (27, (.int .i64))], elems := [], cons := [(8, cWorks), (9, cDraft), (11, cMulT), (12, cIs), (14, cDivT), (16, cGcdT), (17, cTrimPre), (28, cIsF)], hint := [], N := 133, base := B }
theorem good5 {B : Base} (hB : Tabs B) : MGood Tryd.prog (tab5 B) := ⟨⟨types_cons ty9 (types_cons ty24 (types_cons ty27 (types_nil))), elems_nil, by simp only [tab5, ioB]; omega⟩, cons_ok (cals_cons (cal_ok Tryd.func8 (by kernel_rfl) rfl (valid8 hB)) (cals_cons (cal_ok Tryd.func9 (by kernel_rfl) rfl (valid9 hB)) (cals_cons (cal_ok Tryd.func11 (by kernel_rfl) rfl (valid11 hB)) (cals_cons (cal_ok Tryd.func12 (by kernel_rfl) rfl (valid12 hB)) (cals_cons (cal_ok Tryd.func14 (by kernel_rfl) rfl (valid14 hB)) (cals_cons (cal_ok Tryd.func16 (by kernel_rfl) rfl (valid16 hB)) (cals_cons (cal_ok Tryd.func17 (by kernel_rfl) rfl (valid17 hB)) (cals_cons (cal_ok Tryd.func28 (by kernel_rfl) rfl (valid28 hB)) (cals_nil))))))))), by kernel_rfl⟩
def cCommon : Con := fun l os => match l, os with
  | [.z (.st (.pair .bool (.pair (.slice (.int .u8)) (.int .u8)))) a, .z (.st (.pair .bool (.pair (.slice (.int .u8)) (.int .u8)))) b, .z (.st (.pair .bool (.pair (.slice (.int .u8)) (.int .u8)))) c], [] => some (DOK a ∧ DOK b ∧ DOK c, [.z .bool true], [])
  | _, _ => none

theorem valid5 {B : Base} (hB : Tabs B) : Valid B Tryd.prog 5 cCommon := by
  refine valid_of_J (T := tab5 B) (good5 hB).tab Tryd.func5 rfl rfl rfl ?_
  intro args os C rs os' hc hC
  unfold cCommon at hc
  split at hc
  case h_2 => cases hc
  rename_i a b c
  cases hc
  refine ⟨by simp only [List.length_cons, List.length_nil, tab5]; omega, rfl, ?_⟩
  intro X hP hT hr
  have hG : MGood X.P X.T := by rw [hP, hT]; exact good5 hB
  simp only [Tryd.f5, argEnv, ioList, ioB]
  refine r_seq ?_
  refine r_region hG (by simp only [hT, tab5, cWorks, cDraft, cGcdT, cMulT, cTrimPre, cDivT, cIs, cIsF, mx0, mx1, mx2, mx3, mx4, mx5, effOp, endCall, callOp, appendOp, sliceLV, Ty.fieldTy, Ty.fieldOf, Nat.reduceLT, Nat.reduceEqDiff, Nat.reduceAdd, Nat.reduceMul, Nat.reduceSub, Nat.reduceLeDiff, Nat.reduceBEq, Nat.reduceBNe, reduceIte, reduceDIte, reduceCtorEq]; rfl) ?_ ?_ -- R0
  · trivial
  refine k_seq ?_
  refine r_seq ?_
  refine r_seq ?_
  refine r_region hG (by simp only [hT, tab5, cWorks, cDraft, cGcdT, cMulT, cTrimPre, cDivT, cIs, cIsF, mx0, mx1, mx2, mx3, mx4, mx5, effOp, endCall, callOp, appendOp, sliceLV, Ty.fieldTy, Ty.fieldOf, Nat.reduceLT, Nat.reduceEqDiff, Nat.reduceAdd, Nat.reduceMul, Nat.reduceSub, Nat.reduceLeDiff, Nat.reduceBEq, Nat.reduceBNe, reduceIte, reduceDIte, reduceCtorEq]; rfl) ?_ ?_ -- R1
  · trivial
  refine k_seq ?_
  refine r_cond (by simp only [hT, tab5, mx0, mx1, mx2, mx3, mx4, mx5, effOp, endCall, callOp, appendOp, sliceLV, Ty.fieldTy, Ty.fieldOf, Nat.reduceLT, Nat.reduceEqDiff, Nat.reduceAdd, Nat.reduceMul, Nat.reduceSub, Nat.reduceLeDiff, Nat.reduceBEq, Nat.reduceBNe, reduceIte, reduceDIte, reduceCtorEq]; rfl) ?_ ?_
  · intro hb0
    try simp only [decide_eq_true_eq, decide_eq_false_iff_not, beq_iff_eq, bne_iff_ne, Bool.not_eq_true', Bool.and_eq_true] at hb0
    refine r_seq ?_
    refine r_region hG (by simp only [hT, tab5, cWorks, cDraft, cGcdT, cMulT, cTrimPre, cDivT, cIs, cIsF, mx0, mx1, mx2, mx3, mx4, mx5, effOp, endCall, callOp, appendOp, sliceLV, Ty.fieldTy, Ty.fieldOf, Nat.reduceLT, Nat.reduceEqDiff, Nat.reduceAdd, Nat.reduceMul, Nat.reduceSub, Nat.reduceLeDiff, Nat.reduceBEq, Nat.reduceBNe, reduceIte, reduceDIte, reduceCtorEq]; rfl) ?_ ?_ -- R2
    · trivial
    refine k_seq ?_
    refine r_ret ?_
    refine k_seq_ret ?_
    refine ⟨[], ?_⟩
    simp only [hT, tab5, mr0, mr1, mr2, Nat.reduceLT, Nat.reduceEqDiff, Nat.reduceAdd, Nat.reduceMul, Nat.reduceSub, Nat.reduceLeDiff, Nat.reduceBEq, Nat.reduceBNe, reduceIte, reduceDIte, reduceCtorEq]
    cases hb0
  · intro hb0
    try simp only [decide_eq_true_eq, decide_eq_false_iff_not, beq_eq_false_iff_ne, bne_eq_false_iff_eq, Bool.not_eq_false', Bool.and_eq_false_imp] at hb0
    refine r_skip ?_
    refine k_seq ?_
    refine r_cut (fun (z : List UInt8 × List UInt8 × List UInt8) => (⟨[(7, .l (.z .str z.1)), (8, .l (.z .str z.2.1)), (9, .l (.z .str z.2.2))], []⟩ : AState)) (fun z => Three z.1 z.2.1 z.2.2) ?_ ?_
    · refine r_draw hG (by simp only [hT, mt0, tab5, cWorks, cDraft, cGcdT, cMulT, cTrimPre, cDivT, cIs, cIsF, mx0, mx1, mx2, mx3, mx4, mx5, effOp, endCall, callOp, appendOp, sliceLV, Ty.fieldTy, Ty.fieldOf, Nat.reduceLT, Nat.reduceEqDiff, Nat.reduceAdd, Nat.reduceMul, Nat.reduceSub, Nat.reduceLeDiff, Nat.reduceBEq, Nat.reduceBNe, reduceIte, reduceDIte, reduceCtorEq]; rfl) (by kernel_rfl) (by rfl) (by rfl) ?_ ?_ -- R3
      · try simp only [and_true, true_and]
        exact hC
      show ∃ z, _
      simp only [ml0, ml1, Nat.reduceLT, Nat.reduceEqDiff, Nat.reduceAdd, Nat.reduceMul, Nat.reduceSub, Nat.reduceLeDiff, Nat.reduceBEq, Nat.reduceBNe, reduceIte, reduceDIte, reduceCtorEq]
      exact three_ok hC.1 hC.2.1 hC.2.2
    rintro ⟨sa, sb, sc⟩ h3
    try dsimp only at h3
    obtain ⟨x, y, w, ⟨oa, na⟩, ⟨ob, nb⟩, ⟨oc, nc⟩⟩ := h3
    refine r_cut (fun (z : List UInt8 × Int) => (⟨[(7, .l (.z .str sa)), (8, .l (.z .str sb)), (9, .l (.z .str sc)), (10, .l (.z .str z.1)), (11, .l (.z (.int .i64) z.2))], []⟩ : AState)) (fun z => OKT z.1 (gcdI x y) ∧ z.2 = 0) ?_ ?_
    · refine r_region hG (by simp only [hT, tab5, cWorks, cDraft, cGcdT, cMulT, cTrimPre, cDivT, cIs, cIsF, mx0, mx1, mx2, mx3, mx4, mx5, effOp, endCall, callOp, appendOp, sliceLV, Ty.fieldTy, Ty.fieldOf, Nat.reduceLT, Nat.reduceEqDiff, Nat.reduceAdd, Nat.reduceMul, Nat.reduceSub, Nat.reduceLeDiff, Nat.reduceBEq, Nat.reduceBNe, reduceIte, reduceDIte, reduceCtorEq]; rfl) ?_ ?_ -- R4
      · try simp only [and_true, true_and]
        exact ⟨oa.short, ob.short⟩
      show ∃ z, _
      simp only [ml0, ml1, Nat.reduceLT, Nat.reduceEqDiff, Nat.reduceAdd, Nat.reduceMul, Nat.reduceSub, Nat.reduceLeDiff, Nat.reduceBEq, Nat.reduceBNe, reduceIte, reduceDIte, reduceCtorEq]
      rw [oa.v, ob.v]; exact oa.res ob (gcd_bnd na nb) (by decide)
    rintro ⟨t10, e10⟩ ⟨o10, he10⟩
    try dsimp only at o10 he10
    subst he10
    have gb := gcd_bnd na nb
    refine r_cut (fun (z : List UInt8 × Int) => (⟨[(7, .l (.z .str sa)), (8, .l (.z .str sb)), (9, .l (.z .str sc)), (10, .l (.z .str t10)), (11, .l (.z (.int .i64) 0)), (12, .l (.z .str z.1)), (13, .l (.z (.int .i64) z.2))], []⟩ : AState)) (fun z => OKT z.1 (x * w) ∧ z.2 = 0) ?_ ?_
    · refine r_region hG (by simp only [hT, tab5, cWorks, cDraft, cGcdT, cMulT, cTrimPre, cDivT, cIs, cIsF, mx0, mx1, mx2, mx3, mx4, mx5, effOp, endCall, callOp, appendOp, sliceLV, Ty.fieldTy, Ty.fieldOf, Nat.reduceLT, Nat.reduceEqDiff, Nat.reduceAdd, Nat.reduceMul, Nat.reduceSub, Nat.reduceLeDiff, Nat.reduceBEq, Nat.reduceBNe, reduceIte, reduceDIte, reduceCtorEq]; rfl) ?_ ?_ -- R5
      · try simp only [and_true, true_and]
        exact ⟨oa.short, oc.short⟩
      show ∃ z, _
      simp only [ml0, ml1, Nat.reduceLT, Nat.reduceEqDiff, Nat.reduceAdd, Nat.reduceMul, Nat.reduceSub, Nat.reduceLeDiff, Nat.reduceBEq, Nat.reduceBNe, reduceIte, reduceDIte, reduceCtorEq]
      rw [oa.v, oc.v]; exact oa.res oc (na.mul nc) (by decide)
    rintro ⟨t12, e12⟩ ⟨o12, he12⟩
    try dsimp only at o12 he12
    subst he12
    refine r_cut (fun (z : List UInt8 × Int) => (⟨[(7, .l (.z .str sa)), (8, .l (.z .str sb)), (9, .l (.z .str sc)), (10, .l (.z .str t10)), (11, .l (.z (.int .i64) 0)), (12, .l (.z .str t12)), (13, .l (.z (.int .i64) 0)), (14, .l (.z .str z.1)), (15, .l (.z (.int .i64) z.2))], []⟩ : AState)) (fun z => OKT z.1 (y * w) ∧ z.2 = 0) ?_ ?_
    · refine r_region hG (by simp only [hT, tab5, cWorks, cDraft, cGcdT, cMulT, cTrimPre, cDivT, cIs, cIsF, mx0, mx1, mx2, mx3, mx4, mx5, effOp, endCall, callOp, appendOp, sliceLV, Ty.fieldTy, Ty.fieldOf, Nat.reduceLT, Nat.reduceEqDiff, Nat.reduceAdd, Nat.reduceMul, Nat.reduceSub, Nat.reduceLeDiff, Nat.reduceBEq, Nat.reduceBNe, reduceIte, reduceDIte, reduceCtorEq]; rfl) ?_ ?_ -- R6
      · try simp only [and_true, true_and]
        exact ⟨ob.short, oc.short⟩
      show ∃ z, _
      simp only [ml0, ml1, Nat.reduceLT, Nat.reduceEqDiff, Nat.reduceAdd, Nat.reduceMul, Nat.reduceSub, Nat.reduceLeDiff, Nat.reduceBEq, Nat.reduceBNe, reduceIte, reduceDIte, reduceCtorEq]
      rw [ob.v, oc.v]; exact ob.res oc (nb.mul nc) (by decide)
    rintro ⟨t14, e14⟩ ⟨o14, he14⟩
    try dsimp only at o14 he14
    subst he14
    refine r_cut (fun (z : List UInt8 × Int) => (⟨[(7, .l (.z .str sa)), (8, .l (.z .str sb)), (9, .l (.z .str sc)), (10, .l (.z .str t10)), (11, .l (.z (.int .i64) 0)), (12, .l (.z .str t12)), (13, .l (.z (.int .i64) 0)), (14, .l (.z .str t14)), (15, .l (.z (.int .i64) 0)), (16, .l (.z .str z.1)), (17, .l (.z (.int .i64) z.2))], []⟩ : AState)) (fun z => OKT z.1 (gcdI (x * w) (y * w)) ∧ z.2 = 0) ?_ ?_
    · refine r_region hG (by simp only [hT, tab5, cWorks, cDraft, cGcdT, cMulT, cTrimPre, cDivT, cIs, cIsF, mx0, mx1, mx2, mx3, mx4, mx5, effOp, endCall, callOp, appendOp, sliceLV, Ty.fieldTy, Ty.fieldOf, Nat.reduceLT, Nat.reduceEqDiff, Nat.reduceAdd, Nat.reduceMul, Nat.reduceSub, Nat.reduceLeDiff, Nat.reduceBEq, Nat.reduceBNe, reduceIte, reduceDIte, reduceCtorEq]; rfl) ?_ ?_ -- R7
      · try simp only [and_true, true_and]
        exact ⟨o12.short, o14.short⟩
      show ∃ z, _
      simp only [ml0, ml1, Nat.reduceLT, Nat.reduceEqDiff, Nat.reduceAdd, Nat.reduceMul, Nat.reduceSub, Nat.reduceLeDiff, Nat.reduceBEq, Nat.reduceBNe, reduceIte, reduceDIte, reduceCtorEq]
      rw [o12.v, o14.v]; exact o12.res o14 (gcd_bnd (na.mul nc) (nb.mul nc)) (by decide)
    rintro ⟨t16, e16⟩ ⟨o16, he16⟩
    try dsimp only at o16 he16
    subst he16
    refine r_cut (fun (z : List UInt8 × Int) => (⟨[(7, .l (.z .str sa)), (8, .l (.z .str sb)), (9, .l (.z .str sc)), (10, .l (.z .str t10)), (11, .l (.z (.int .i64) 0)), (12, .l (.z .str t12)), (13, .l (.z (.int .i64) 0)), (14, .l (.z .str t14)), (15, .l (.z (.int .i64) 0)), (16, .l (.z .str t16)), (17, .l (.z (.int .i64) 0)), (18, .l (.z .str z.1)), (19, .l (.z (.int .i64) z.2))], []⟩ : AState)) (fun z => OKT z.1 (gcdI x y * (w.natAbs : Int)) ∧ z.2 = 0) ?_ ?_
    · refine r_region hG (by simp only [hT, tab5, cWorks, cDraft, cGcdT, cMulT, cTrimPre, cDivT, cIs, cIsF, mx0, mx1, mx2, mx3, mx4, mx5, effOp, endCall, callOp, appendOp, sliceLV, Ty.fieldTy, Ty.fieldOf, Nat.reduceLT, Nat.reduceEqDiff, Nat.reduceAdd, Nat.reduceMul, Nat.reduceSub, Nat.reduceLeDiff, Nat.reduceBEq, Nat.reduceBNe, reduceIte, reduceDIte, reduceCtorEq]; rfl) ?_ ?_ -- R8
      · try simp only [and_true, true_and]
        exact ⟨o10.short, (okt_abs oc).short⟩
      show ∃ z, _
      simp only [ml0, ml1, Nat.reduceLT, Nat.reduceEqDiff, Nat.reduceAdd, Nat.reduceMul, Nat.reduceSub, Nat.reduceLeDiff, Nat.reduceBEq, Nat.reduceBNe, reduceIte, reduceDIte, reduceCtorEq]
      have hw := okt_abs oc; rw [o10.v, hw.v]; exact o10.res hw (gb.mul (show Bnd (w.natAbs : Int) 240 by unfold Bnd; rw [Int.natAbs_natCast]; exact nc)) (by decide)
    rintro ⟨t18, e18⟩ ⟨o18, he18⟩
    try dsimp only at o18 he18
    subst he18
    refine r_seq ?_
    refine r_seq ?_
    refine r_region hG (by simp only [hT, tab5, cWorks, cDraft, cGcdT, cMulT, cTrimPre, cDivT, cIs, cIsF, mx0, mx1, mx2, mx3, mx4, mx5, effOp, endCall, callOp, appendOp, sliceLV, Ty.fieldTy, Ty.fieldOf, Nat.reduceLT, Nat.reduceEqDiff, Nat.reduceAdd, Nat.reduceMul, Nat.reduceSub, Nat.reduceLeDiff, Nat.reduceBEq, Nat.reduceBNe, reduceIte, reduceDIte, reduceCtorEq]; rfl) ?_ ?_ -- R9
    · trivial
    refine k_seq ?_
    refine r_cond (by simp only [hT, tab5, mx0, mx1, mx2, mx3, mx4, mx5, effOp, endCall, callOp, appendOp, sliceLV, Ty.fieldTy, Ty.fieldOf, Nat.reduceLT, Nat.reduceEqDiff, Nat.reduceAdd, Nat.reduceMul, Nat.reduceSub, Nat.reduceLeDiff, Nat.reduceBEq, Nat.reduceBNe, reduceIte, reduceDIte, reduceCtorEq]; rfl) ?_ ?_
    · intro hb1
      exfalso
      have e := (o16.eq o18).1 (gcd_scale x y w)
      simp [e] at hb1
    · intro hb1
      try simp only [decide_eq_true_eq, decide_eq_false_iff_not, beq_eq_false_iff_ne, bne_eq_false_iff_eq, Bool.not_eq_false', Bool.and_eq_false_imp] at hb1
      refine r_skip ?_
      refine k_seq ?_
      refine r_seq ?_
      refine r_seq ?_
      refine r_region hG (by simp only [hT, tab5, cWorks, cDraft, cGcdT, cMulT, cTrimPre, cDivT, cIs, cIsF, mx0, mx1, mx2, mx3, mx4, mx5, effOp, endCall, callOp, appendOp, sliceLV, Ty.fieldTy, Ty.fieldOf, Nat.reduceLT, Nat.reduceEqDiff, Nat.reduceAdd, Nat.reduceMul, Nat.reduceSub, Nat.reduceLeDiff, Nat.reduceBEq, Nat.reduceBNe, reduceIte, reduceDIte, reduceCtorEq]; rfl) ?_ ?_ -- R11
      · trivial
      refine k_seq ?_
      refine r_cond (by simp only [hT, tab5, mx0, mx1, mx2, mx3, mx4, mx5, effOp, endCall, callOp, appendOp, sliceLV, Ty.fieldTy, Ty.fieldOf, Nat.reduceLT, Nat.reduceEqDiff, Nat.reduceAdd, Nat.reduceMul, Nat.reduceSub, Nat.reduceLeDiff, Nat.reduceBEq, Nat.reduceBNe, reduceIte, reduceDIte, reduceCtorEq]; rfl) ?_ ?_
      · intro hb2
        simp only [beq_iff_eq] at hb2
        have hg := gcd_zero ((o10.eq okt0).2 hb2)
        refine r_seq ?_
        refine r_region hG (by simp only [hT, tab5, cWorks, cDraft, cGcdT, cMulT, cTrimPre, cDivT, cIs, cIsF, mx0, mx1, mx2, mx3, mx4, mx5, effOp, endCall, callOp, appendOp, sliceLV, Ty.fieldTy, Ty.fieldOf, Nat.reduceLT, Nat.reduceEqDiff, Nat.reduceAdd, Nat.reduceMul, Nat.reduceSub, Nat.reduceLeDiff, Nat.reduceBEq, Nat.reduceBNe, reduceIte, reduceDIte, reduceCtorEq]; rfl) ?_ ?_ -- R12
        · try simp only [and_true, true_and]
          exact fun h => h
        refine k_seq ?_
        refine r_ret ?_
        refine k_seq_ret ?_
        refine ⟨[], ?_⟩
        simp only [hT, tab5, mr0, mr1, mr2, Nat.reduceLT, Nat.reduceEqDiff, Nat.reduceAdd, Nat.reduceMul, Nat.reduceSub, Nat.reduceLeDiff, Nat.reduceBEq, Nat.reduceBNe, reduceIte, reduceDIte, reduceCtorEq]
        have e1 := (oa.eq okt0).1 hg.1
        have e2 := (ob.eq okt0).1 hg.2
        rw [e1, e2]; rfl
      · intro hb2
        simp only [beq_eq_false_iff_ne, ne_eq] at hb2
        have hg : gcdI x y ≠ 0 := fun h => hb2 ((o10.eq okt0).1 h)
        refine r_skip ?_
        refine k_seq ?_
        refine r_cut (fun (z : List UInt8 × List UInt8 × Int) => (⟨[(7, .l (.z .str sa)), (8, .l (.z .str sb)), (10, .l (.z .str t10)), (20, .l (.z .str z.1)), (21, .l (.z .str z.2.1)), (22, .l (.z (.int .i64) z.2.2))], []⟩ : AState)) (fun z => OKT z.1 (floorQ x (gcdI x y)) ∧ z.2.1 = [48] ∧ z.2.2 = 0) ?_ ?_
        · refine r_region hG (by simp only [hT, tab5, cWorks, cDraft, cGcdT, cMulT, cTrimPre, cDivT, cIs, cIsF, mx0, mx1, mx2, mx3, mx4, mx5, effOp, endCall, callOp, appendOp, sliceLV, Ty.fieldTy, Ty.fieldOf, Nat.reduceLT, Nat.reduceEqDiff, Nat.reduceAdd, Nat.reduceMul, Nat.reduceSub, Nat.reduceLeDiff, Nat.reduceBEq, Nat.reduceBNe, reduceIte, reduceDIte, reduceCtorEq]; rfl) ?_ ?_ -- R13
          · try simp only [and_true, true_and]
            exact ⟨oa.short, o10.short⟩
          show ∃ z, _
          simp only [ml0, ml1, Nat.reduceLT, Nat.reduceEqDiff, Nat.reduceAdd, Nat.reduceMul, Nat.reduceSub, Nat.reduceLeDiff, Nat.reduceBEq, Nat.reduceBNe, reduceIte, reduceDIte, reduceCtorEq]
          have hdv := (divT_okt oa o10 na gb (by decide)).2 hg
          exact ⟨hdv.2.1, (hdv.2.2.eq okt0).1 (gcd_parts hg).1, hdv.1⟩
        rintro ⟨t20, t21, e22⟩ ⟨o20, p21, he22⟩
        try dsimp only at o20 p21 he22
        subst p21
        subst he22
        refine r_cut (fun (z : List UInt8 × List UInt8 × Int) => (⟨[(20, .l (.z .str t20)), (21, .l (.z .str [48])), (22, .l (.z (.int .i64) 0)), (23, .l (.z .str z.1)), (24, .l (.z .str z.2.1)), (25, .l (.z (.int .i64) z.2.2))], []⟩ : AState)) (fun z => OKT z.1 (floorQ y (gcdI x y)) ∧ z.2.1 = [48] ∧ z.2.2 = 0) ?_ ?_
        · refine r_region hG (by simp only [hT, tab5, cWorks, cDraft, cGcdT, cMulT, cTrimPre, cDivT, cIs, cIsF, mx0, mx1, mx2, mx3, mx4, mx5, effOp, endCall, callOp, appendOp, sliceLV, Ty.fieldTy, Ty.fieldOf, Nat.reduceLT, Nat.reduceEqDiff, Nat.reduceAdd, Nat.reduceMul, Nat.reduceSub, Nat.reduceLeDiff, Nat.reduceBEq, Nat.reduceBNe, reduceIte, reduceDIte, reduceCtorEq]; rfl) ?_ ?_ -- R14
          · try simp only [and_true, true_and]
            exact ⟨ob.short, o10.short⟩
          show ∃ z, _
          simp only [ml0, ml1, Nat.reduceLT, Nat.reduceEqDiff, Nat.reduceAdd, Nat.reduceMul, Nat.reduceSub, Nat.reduceLeDiff, Nat.reduceBEq, Nat.reduceBNe, reduceIte, reduceDIte, reduceCtorEq]
          have hdv := (divT_okt ob o10 nb gb (by decide)).2 hg
          exact ⟨hdv.2.1, (hdv.2.2.eq okt0).1 (gcd_parts hg).2.1, hdv.1⟩
        rintro ⟨t23, t24, e25⟩ ⟨o23, p24, he25⟩
        try dsimp only at o23 p24 he25
        subst p24
        subst he25
        refine r_seq ?_
        refine r_region hG (by simp only [hT, tab5, cWorks, cDraft, cGcdT, cMulT, cTrimPre, cDivT, cIs, cIsF, mx0, mx1, mx2, mx3, mx4, mx5, effOp, endCall, callOp, appendOp, sliceLV, Ty.fieldTy, Ty.fieldOf, Nat.reduceLT, Nat.reduceEqDiff, Nat.reduceAdd, Nat.reduceMul, Nat.reduceSub, Nat.reduceLeDiff, Nat.reduceBEq, Nat.reduceBNe, reduceIte, reduceDIte, reduceCtorEq]; rfl) ?_ ?_ -- R15
        · try simp only [and_true, true_and]
          exact ⟨o20.short, o23.short⟩
        refine k_seq ?_
        refine r_ret ?_
        refine ⟨[], ?_⟩
        simp only [hT, tab5, mr0, mr1, mr2, Nat.reduceLT, Nat.reduceEqDiff, Nat.reduceAdd, Nat.reduceMul, Nat.reduceSub, Nat.reduceLeDiff, Nat.reduceBEq, Nat.reduceBNe, reduceIte, reduceDIte, reduceCtorEq]
        have f1 := o20.is o23 okt1 (v := gcdI (numI t20) (numI t23)) (by rw [o20.v, o23.v]; exact (gcd_parts hg).2.2)
        simp [f1.1, f1.2]

end Go.Proofs.YtkgbdpmhdplddaaDoor
end

section
/- The law WholeCommon: its row, its card. -/
namespace Go.Proofs.YtkgbdpmhdplddaaDoor.wholeCommon
open Go Go.Cm Go.Proofs Go.ChangeShapes Go.WideShapes Go.ChangeAt Go.RowKit Go.Deep Go.Joins
set_option maxRecDepth 100000

theorem own : ownKnob Tryd.prog.godebug = none := by kernel_rfl
theorem rets : Tryd.f5.resultTypes = #[4] := by kernel_rfl
theorem bools : Tryd.prog.underlying 4 = some .bool := by kernel_rfl
def tys : List Ty := [(.st (.pair .bool (.pair (.slice (.int .u8)) (.int .u8)))), (.st (.pair .bool (.pair (.slice (.int .u8)) (.int .u8)))), (.st (.pair .bool (.pair (.slice (.int .u8)) (.int .u8))))]
theorem reads : rdAll Tryd.prog tys Tryd.f5.params.toList = true := by kernel_rfl
theorem spec : TrueSpec Rows.wholeCommonSpec tys.length := ⟨rfl, fun _ ds h => match ds, h with | [a0, a1, a2], _ => rfl⟩
abbrev vals : Array Value := #[.agg #[.bool false, .slice none 0 0, .int .u8 0], .agg #[.bool false, .slice none 0 0, .int .u8 0], .agg #[.bool false, .slice none 0 0, .int .u8 0]]
theorem met (os : Os) : laidMet Tryd.prog Rows.wholeCommonRow.laid ((lawWorld os).forCall (fun _ _ => 0) ⟨#[], vals, []⟩).memory :=
  laidMet_of_run3 8 (by kernel_rfl) (by kernel_rfl) (by kernel_rfl)
theorem witness (os : Os) {H : Type} (enc : TypeId × Value → H) : ∃ places, DataW.whole enc Tryd.prog ((lawWorld os).forCall (fun _ _ => 0) ⟨#[], vals, []⟩).memory Tryd.f5.params.toList Rows.wholeCommonSpec.vars false vals.toList 8 = some ([.agg [.lit (.bool false), .nil, .lit (.int .u8 0)], .agg [.lit (.bool false), .nil, .lit (.int .u8 0)], .agg [.lit (.bool false), .nil, .lit (.int .u8 0)]], [], places) :=
  ⟨[], by kernel_rfl⟩
theorem tabs {W : World} (h : laidMetH Tryd.prog Rows.wholeCommonRow.laid W) : Tabs (lawBase W) := by
  have hL : laidMet Tryd.prog Rows.wholeCommonRow.laid W := h
  exact fun w hw => pow_tab (laidMet.tail (laidMet.tail hL)) w hw

theorem lifted (os : Os) (started : os.Started) (H : Type) (enc : TypeId × Value → H) (F : Stop.Interp) :
    ReturnsInHanded {} Tryd.checked os 5 .any ((OpenSpec.ofChange Rows.wholeCommonSpec).preRow enc Tryd.prog Tryd.f5 Rows.wholeCommonRow.domain false Rows.wholeCommonRow.laid) (((OpenSpec.ofChange Rows.wholeCommonSpec).at F).post enc Tryd.prog Tryd.f5 false true false false) := by
  obtain ⟨places, hx⟩ := witness os enc
  refine returnsInHanded_of_row (C := Tryd.checked) (s := OpenSpec.ofChange Rows.wholeCommonSpec) own started (by kernel_rfl) Tryd.func5
    (witness_row_at (enc := enc) (C := Tryd.checked) false (lawWorld os) vals rfl (by kernel_rfl) (by kernel_rfl) (by kernel_rfl)
      (OpenSpec.preRow_of_cond 8 hx (by kernel_rfl) (fun k hk => by cases hk) (by kernel_rfl) (met os))) ?_
  intro W base args ds gs before hval hW _ _ _ hL _ _
  exact row_contract (ts := tys) (con := cCommon) reads rets bools spec (fun x h => by obtain ⟨x0, x1, x2, ⟨⟩⟩ := x; obtain ⟨h0, h1, h2, -⟩ := h; exact ⟨_, rfl, ⟨dok_of h0, dok_of h1, dok_of h2⟩⟩) (valid5 (tabs hL)) hval hW

theorem said : Rows.WholeCommonSaid :=
  OpenClaim.holds_of_cond 5 Tryd.f5 rfl rfl rfl rfl rfl rfl rfl ⟨rfl, rfl, rfl, rfl, rfl⟩ rfl rfl rfl rfl rfl (by kernel_rfl) Tryd.func5 (by kernel_rfl)
    (of_decide_eq_true (by kernel_rfl)) (by unfold Func.isWrapper; first | (rw [if_pos (by decide +kernel)]; kernel_rfl) | (rw [if_neg (by decide +kernel)]; exact ⟨rfl, rfl⟩))
    (fun os started H enc _ F => by rw [OpenClaim.pre_eq_preRow]; exact lifted os started H enc F)

theorem plain (f : FuncId) (fn : Func) (hf : Tryd.pinned.checked.prog.funcNamed "croupier/croupierlaw01.WholeCommon" = some f) (hfn : Tryd.pinned.checked.prog.funcs[f]? = some fn) :
    true = Tryd.pinned.checked.prog.looks [] ∧ ∀ (j : Nat) t, fn.params[j]? = some t → Tryd.pinned.checked.prog.wantsStandIn t = false := by
  obtain rfl : f = 5 := Option.some.inj ((show Tryd.prog.funcNamed "croupier/croupierlaw01.WholeCommon" = some 5 by kernel_rfl).symm.trans hf) |>.symm
  obtain rfl : fn = Tryd.f5 := (Option.some.inj (Tryd.func5.symm.trans hfn)).symm
  refine ⟨by kernel_rfl, fun j t ht => ?_⟩
  have hall : Tryd.f5.params.toList.all (fun t => !Tryd.prog.wantsStandIn t) = true := by kernel_rfl
  have := List.all_eq_true.1 hall t (by simpa using Array.mem_of_getElem? ht)
  exact (by simpa using this : Tryd.prog.wantsStandIn t = false)

theorem card : Rows.WholeCommonCardSaid :=
  Claim7.holds_tied_plain_at .later [] _ _ _ _ said (fun _ h => by cases h) (by kernel_rfl) (fun _ h => by cases h) wholeCommon_row_tie rfl ⟨rfl, rfl⟩ (by kernel_rfl) rfl plain (by kernel_rfl)

end Go.Proofs.YtkgbdpmhdplddaaDoor.wholeCommon
end
