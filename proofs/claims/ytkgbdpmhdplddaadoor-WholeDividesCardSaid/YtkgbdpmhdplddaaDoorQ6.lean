/- Proved: the law WholeDivides returns true for every two drafts. Conditions: those of its row alone (the package-level variables that the row lists start as the program lays them). -/
import Derived.Test.YtkgbdpmhdplddaaDoorQ3
import Derived.Test.YtkgbdpmhdplddaaDoorQ4
import Derived.Test.YtkgbdpmhdplddaaDoorProg
import Derived.Test.YtkgbdpmhdplddaaDoorQ5
import Derived.WalkKit
set_option linter.all false
set_option linter.unusedSimpArgs false
set_option linter.unusedVariables false

section
/- The functions of the package exact, one after the other: each meets its contract. -/
set_option linter.unusedSimpArgs false
set_option linter.unusedVariables false
set_option maxRecDepth 100000
namespace Go.Proofs.YtkgbdpmhdplddaaDoor
open Go Go.Cm Go.Proofs

def tab4 (B : Base) : Tab := { types := [(3, (.int .i64)), (9, .str), (24, (.st (.pair .bool (.pair (.slice (.int .u8)) (.int .u8))))), (27, (.int .i64))], elems := [], cons := [(8, cWorks), (9, cDraft), (10, cAddT), (11, cMulT), (12, cIs), (13, cSubT), (14, cDivT), (15, cCmpT), (28, cIsF)], hint := [], N := 114, base := B }
theorem good4 {B : Base} (hB : Tabs B) : MGood Tryd.prog (tab4 B) := ⟨⟨types_cons ty3 (types_cons ty9 (types_cons ty24 (types_cons ty27 (types_nil)))), elems_nil, by simp only [tab4, ioB]; omega⟩, cons_ok (cals_cons (cal_ok Tryd.func8 (by kernel_rfl) rfl (valid8 hB)) (cals_cons (cal_ok Tryd.func9 (by kernel_rfl) rfl (valid9 hB)) (cals_cons (cal_ok Tryd.func10 (by kernel_rfl) rfl (valid10 hB)) (cals_cons (cal_ok Tryd.func11 (by kernel_rfl) rfl (valid11 hB)) (cals_cons (cal_ok Tryd.func12 (by kernel_rfl) rfl (valid12 hB)) (cals_cons (cal_ok Tryd.func13 (by kernel_rfl) rfl (valid13 hB)) (cals_cons (cal_ok Tryd.func14 (by kernel_rfl) rfl (valid14 hB)) (cals_cons (cal_ok Tryd.func15 (by kernel_rfl) rfl (valid15 hB)) (cals_cons (cal_ok Tryd.func28 (by kernel_rfl) rfl (valid28 hB)) (cals_nil)))))))))), by kernel_rfl⟩
def cDivLaw : Con := fun l os => match l, os with
  | [.z (.st (.pair .bool (.pair (.slice (.int .u8)) (.int .u8)))) a, .z (.st (.pair .bool (.pair (.slice (.int .u8)) (.int .u8)))) b], [] => some (DOK a ∧ DOK b, [.z .bool true], [])
  | _, _ => none

theorem valid4 {B : Base} (hB : Tabs B) : Valid B Tryd.prog 4 cDivLaw := by
  refine valid_of_J (T := tab4 B) (good4 hB).tab Tryd.func4 rfl rfl rfl ?_
  intro args os C rs os' hc hC
  unfold cDivLaw at hc
  split at hc
  case h_2 => cases hc
  rename_i a b
  cases hc
  refine ⟨by simp only [List.length_cons, List.length_nil, tab4]; omega, rfl, ?_⟩
  intro X hP hT hr
  have hG : MGood X.P X.T := by rw [hP, hT]; exact good4 hB
  simp only [Tryd.f4, argEnv, ioList, ioB]
  refine r_seq ?_
  refine r_region hG (by simp only [hT, tab4, cWorks, cDraft, cDivT, cMulT, cIs, cAddT, cIsF, cSubT, cCmpT, mx0, mx1, mx2, mx3, mx4, mx5, effOp, endCall, callOp, appendOp, sliceLV, Ty.fieldTy, Ty.fieldOf, Nat.reduceLT, Nat.reduceEqDiff, Nat.reduceAdd, Nat.reduceMul, Nat.reduceSub, Nat.reduceLeDiff, Nat.reduceBEq, Nat.reduceBNe, reduceIte, reduceDIte, reduceCtorEq]; rfl) ?_ ?_ -- R0
  · trivial
  refine k_seq ?_
  refine r_seq ?_
  refine r_seq ?_
  refine r_region hG (by simp only [hT, tab4, cWorks, cDraft, cDivT, cMulT, cIs, cAddT, cIsF, cSubT, cCmpT, mx0, mx1, mx2, mx3, mx4, mx5, effOp, endCall, callOp, appendOp, sliceLV, Ty.fieldTy, Ty.fieldOf, Nat.reduceLT, Nat.reduceEqDiff, Nat.reduceAdd, Nat.reduceMul, Nat.reduceSub, Nat.reduceLeDiff, Nat.reduceBEq, Nat.reduceBNe, reduceIte, reduceDIte, reduceCtorEq]; rfl) ?_ ?_ -- R1
  · trivial
  refine k_seq ?_
  refine r_cond (by simp only [hT, tab4, mx0, mx1, mx2, mx3, mx4, mx5, effOp, endCall, callOp, appendOp, sliceLV, Ty.fieldTy, Ty.fieldOf, Nat.reduceLT, Nat.reduceEqDiff, Nat.reduceAdd, Nat.reduceMul, Nat.reduceSub, Nat.reduceLeDiff, Nat.reduceBEq, Nat.reduceBNe, reduceIte, reduceDIte, reduceCtorEq]; rfl) ?_ ?_
  · intro hb0
    try simp only [decide_eq_true_eq, decide_eq_false_iff_not, beq_iff_eq, bne_iff_ne, Bool.not_eq_true', Bool.and_eq_true] at hb0
    refine r_seq ?_
    refine r_region hG (by simp only [hT, tab4, cWorks, cDraft, cDivT, cMulT, cIs, cAddT, cIsF, cSubT, cCmpT, mx0, mx1, mx2, mx3, mx4, mx5, effOp, endCall, callOp, appendOp, sliceLV, Ty.fieldTy, Ty.fieldOf, Nat.reduceLT, Nat.reduceEqDiff, Nat.reduceAdd, Nat.reduceMul, Nat.reduceSub, Nat.reduceLeDiff, Nat.reduceBEq, Nat.reduceBNe, reduceIte, reduceDIte, reduceCtorEq]; rfl) ?_ ?_ -- R2
    · trivial
    refine k_seq ?_
    refine r_ret ?_
    refine k_seq_ret ?_
    refine ⟨[], ?_⟩
    simp only [hT, tab4, mr0, mr1, mr2, Nat.reduceLT, Nat.reduceEqDiff, Nat.reduceAdd, Nat.reduceMul, Nat.reduceSub, Nat.reduceLeDiff, Nat.reduceBEq, Nat.reduceBNe, reduceIte, reduceDIte, reduceCtorEq]
    cases hb0
  · intro hb0
    try simp only [decide_eq_true_eq, decide_eq_false_iff_not, beq_eq_false_iff_ne, bne_eq_false_iff_eq, Bool.not_eq_false', Bool.and_eq_false_imp] at hb0
    refine r_skip ?_
    refine k_seq ?_
    refine r_cut (fun (z : List UInt8 × List UInt8) => (⟨[(5, .l (.z .str z.1)), (6, .l (.z .str z.2))], []⟩ : AState)) (fun z => Two z.1 z.2) ?_ ?_
    · refine r_draw hG (by simp only [hT, mt0, tab4, cWorks, cDraft, cDivT, cMulT, cIs, cAddT, cIsF, cSubT, cCmpT, mx0, mx1, mx2, mx3, mx4, mx5, effOp, endCall, callOp, appendOp, sliceLV, Ty.fieldTy, Ty.fieldOf, Nat.reduceLT, Nat.reduceEqDiff, Nat.reduceAdd, Nat.reduceMul, Nat.reduceSub, Nat.reduceLeDiff, Nat.reduceBEq, Nat.reduceBNe, reduceIte, reduceDIte, reduceCtorEq]; rfl) (by kernel_rfl) (by rfl) (by rfl) ?_ ?_ -- R3
      · try simp only [and_true, true_and]
        exact hC
      show ∃ z, _
      simp only [ml0, ml1, Nat.reduceLT, Nat.reduceEqDiff, Nat.reduceAdd, Nat.reduceMul, Nat.reduceSub, Nat.reduceLeDiff, Nat.reduceBEq, Nat.reduceBNe, reduceIte, reduceDIte, reduceCtorEq]
      exact two_ok hC.1 hC.2
    rintro ⟨sa, sb⟩ h3
    try dsimp only at h3
    obtain ⟨x, y, ⟨oa, na⟩, ⟨ob, nb⟩⟩ := h3
    refine r_cut (fun (z : List UInt8 × List UInt8 × Int) => (⟨[(5, .l (.z .str sa)), (6, .l (.z .str sb)), (7, .l (.z .str z.1)), (8, .l (.z .str z.2.1)), (9, .l (.z (.int .i64) z.2.2))], []⟩ : AState)) (fun z => DivT x y z.1 z.2.1 z.2.2) ?_ ?_
    · refine r_region hG (by simp only [hT, tab4, cWorks, cDraft, cDivT, cMulT, cIs, cAddT, cIsF, cSubT, cCmpT, mx0, mx1, mx2, mx3, mx4, mx5, effOp, endCall, callOp, appendOp, sliceLV, Ty.fieldTy, Ty.fieldOf, Nat.reduceLT, Nat.reduceEqDiff, Nat.reduceAdd, Nat.reduceMul, Nat.reduceSub, Nat.reduceLeDiff, Nat.reduceBEq, Nat.reduceBNe, reduceIte, reduceDIte, reduceCtorEq]; rfl) ?_ ?_ -- R4
      · try simp only [and_true, true_and]
        exact ⟨oa.short, ob.short⟩
      show ∃ z, _
      simp only [ml0, ml1, Nat.reduceLT, Nat.reduceEqDiff, Nat.reduceAdd, Nat.reduceMul, Nat.reduceSub, Nat.reduceLeDiff, Nat.reduceBEq, Nat.reduceBNe, reduceIte, reduceDIte, reduceCtorEq]
      exact divT_okt oa ob na nb (by decide)
    rintro ⟨q, r, e⟩ hd
    try dsimp only at hd
    refine r_seq ?_
    refine r_seq ?_
    refine r_region hG (by simp only [hT, tab4, cWorks, cDraft, cDivT, cMulT, cIs, cAddT, cIsF, cSubT, cCmpT, mx0, mx1, mx2, mx3, mx4, mx5, effOp, endCall, callOp, appendOp, sliceLV, Ty.fieldTy, Ty.fieldOf, Nat.reduceLT, Nat.reduceEqDiff, Nat.reduceAdd, Nat.reduceMul, Nat.reduceSub, Nat.reduceLeDiff, Nat.reduceBEq, Nat.reduceBNe, reduceIte, reduceDIte, reduceCtorEq]; rfl) ?_ ?_ -- R5
    · trivial
    refine k_seq ?_
    refine r_cond (by simp only [hT, tab4, mx0, mx1, mx2, mx3, mx4, mx5, effOp, endCall, callOp, appendOp, sliceLV, Ty.fieldTy, Ty.fieldOf, Nat.reduceLT, Nat.reduceEqDiff, Nat.reduceAdd, Nat.reduceMul, Nat.reduceSub, Nat.reduceLeDiff, Nat.reduceBEq, Nat.reduceBNe, reduceIte, reduceDIte, reduceCtorEq]; rfl) ?_ ?_
    · intro hb1
      simp only [beq_iff_eq] at hb1
      have hy : y = 0 := (ob.eq okt0).2 hb1
      refine r_seq ?_
      refine r_region hG (by simp only [hT, tab4, cWorks, cDraft, cDivT, cMulT, cIs, cAddT, cIsF, cSubT, cCmpT, mx0, mx1, mx2, mx3, mx4, mx5, effOp, endCall, callOp, appendOp, sliceLV, Ty.fieldTy, Ty.fieldOf, Nat.reduceLT, Nat.reduceEqDiff, Nat.reduceAdd, Nat.reduceMul, Nat.reduceSub, Nat.reduceLeDiff, Nat.reduceBEq, Nat.reduceBNe, reduceIte, reduceDIte, reduceCtorEq]; rfl) ?_ ?_ -- R6
      · trivial
      refine k_seq ?_
      refine r_ret ?_
      refine k_seq_ret ?_
      refine ⟨[], ?_⟩
      simp only [hT, tab4, mr0, mr1, mr2, Nat.reduceLT, Nat.reduceEqDiff, Nat.reduceAdd, Nat.reduceMul, Nat.reduceSub, Nat.reduceLeDiff, Nat.reduceBEq, Nat.reduceBNe, reduceIte, reduceDIte, reduceCtorEq]
      rw [hd.1 hy]; rfl
    · intro hb1
      simp only [beq_eq_false_iff_ne, ne_eq] at hb1
      have hy : y ≠ 0 := fun h => hb1 ((ob.eq okt0).1 h)
      obtain ⟨he, oQ, oR⟩ := hd.2 hy
      subst he
      refine r_skip ?_
      refine k_seq ?_
      refine r_cut (fun (z : List UInt8 × Int) => (⟨[(5, .l (.z .str sa)), (6, .l (.z .str sb)), (7, .l (.z .str q)), (8, .l (.z .str r)), (9, .l (.z (.int .i64) 0)), (10, .l (.z .str z.1)), (11, .l (.z (.int .i64) z.2))], []⟩ : AState)) (fun z => OKT z.1 (floorQ x y * y) ∧ z.2 = 0) ?_ ?_
      · refine r_region hG (by simp only [hT, tab4, cWorks, cDraft, cDivT, cMulT, cIs, cAddT, cIsF, cSubT, cCmpT, mx0, mx1, mx2, mx3, mx4, mx5, effOp, endCall, callOp, appendOp, sliceLV, Ty.fieldTy, Ty.fieldOf, Nat.reduceLT, Nat.reduceEqDiff, Nat.reduceAdd, Nat.reduceMul, Nat.reduceSub, Nat.reduceLeDiff, Nat.reduceBEq, Nat.reduceBNe, reduceIte, reduceDIte, reduceCtorEq]; rfl) ?_ ?_ -- R7
        · try simp only [and_true, true_and]
          exact ⟨oQ.short, ob.short⟩
        show ∃ z, _
        simp only [ml0, ml1, Nat.reduceLT, Nat.reduceEqDiff, Nat.reduceAdd, Nat.reduceMul, Nat.reduceSub, Nat.reduceLeDiff, Nat.reduceBEq, Nat.reduceBNe, reduceIte, reduceDIte, reduceCtorEq]
        rw [oQ.v, ob.v]; exact oQ.res ob (floor_mul_bnd na nb hy) (by decide)
      rintro ⟨t10, e10⟩ ⟨o10, he10⟩
      try dsimp only at o10 he10
      subst he10
      refine r_seq ?_
      refine r_seq ?_
      refine r_region hG (by simp only [hT, tab4, cWorks, cDraft, cDivT, cMulT, cIs, cAddT, cIsF, cSubT, cCmpT, mx0, mx1, mx2, mx3, mx4, mx5, effOp, endCall, callOp, appendOp, sliceLV, Ty.fieldTy, Ty.fieldOf, Nat.reduceLT, Nat.reduceEqDiff, Nat.reduceAdd, Nat.reduceMul, Nat.reduceSub, Nat.reduceLeDiff, Nat.reduceBEq, Nat.reduceBNe, reduceIte, reduceDIte, reduceCtorEq]; rfl) ?_ ?_ -- R8
      · try simp only [and_true, true_and]
        have f1 := o10.is oR oa (v := numI t10 + numI r) (by rw [o10.v, oR.v, Int.mul_comm]; exact (floor_facts hy).1.symm)
        simp [f1.1, f1.2, o10.short, oR.short]
      refine k_seq ?_
      refine r_cond (by simp only [hT, tab4, mx0, mx1, mx2, mx3, mx4, mx5, effOp, endCall, callOp, appendOp, sliceLV, Ty.fieldTy, Ty.fieldOf, Nat.reduceLT, Nat.reduceEqDiff, Nat.reduceAdd, Nat.reduceMul, Nat.reduceSub, Nat.reduceLeDiff, Nat.reduceBEq, Nat.reduceBNe, reduceIte, reduceDIte, reduceCtorEq]; rfl) ?_ ?_
      · intro hb2
        exfalso
        have f1 := o10.is oR oa (v := numI t10 + numI r) (by rw [o10.v, oR.v, Int.mul_comm]; exact (floor_facts hy).1.symm)
        have hr : r ≠ [] := fun h => by have := oR.c; rw [h] at this; exact absurd this (by decide)
        simp [f1.1, f1.2, hr] at hb2
      · intro hb2
        try simp only [decide_eq_true_eq, decide_eq_false_iff_not, beq_eq_false_iff_ne, bne_eq_false_iff_eq, Bool.not_eq_false', Bool.and_eq_false_imp] at hb2
        refine r_skip ?_
        refine k_seq ?_
        refine r_cut (fun (z : List UInt8 × Int) => (⟨[(6, .l (.z .str sb)), (8, .l (.z .str r)), (12, .l (.z .str z.1)), (13, .l (.z (.int .i64) z.2))], []⟩ : AState)) (fun z => OKT z.1 (floorR x y - y) ∧ z.2 = 0) ?_ ?_
        · refine r_region hG (by simp only [hT, tab4, cWorks, cDraft, cDivT, cMulT, cIs, cAddT, cIsF, cSubT, cCmpT, mx0, mx1, mx2, mx3, mx4, mx5, effOp, endCall, callOp, appendOp, sliceLV, Ty.fieldTy, Ty.fieldOf, Nat.reduceLT, Nat.reduceEqDiff, Nat.reduceAdd, Nat.reduceMul, Nat.reduceSub, Nat.reduceLeDiff, Nat.reduceBEq, Nat.reduceBNe, reduceIte, reduceDIte, reduceCtorEq]; rfl) ?_ ?_ -- R10
          · try simp only [and_true, true_and]
            exact ⟨oR.short, ob.short⟩
          show ∃ z, _
          simp only [ml0, ml1, Nat.reduceLT, Nat.reduceEqDiff, Nat.reduceAdd, Nat.reduceMul, Nat.reduceSub, Nat.reduceLeDiff, Nat.reduceBEq, Nat.reduceBNe, reduceIte, reduceDIte, reduceCtorEq]
          rw [oR.v, ob.v]; exact oR.res ob ((floorR_bnd nb hy).sub nb) (by decide)
        rintro ⟨t12, e12⟩ ⟨o12, he12⟩
        try dsimp only at o12 he12
        subst he12
        refine r_cut (fun (z : Int × Int) => (⟨[(6, .l (.z .str sb)), (8, .l (.z .str r)), (12, .l (.z .str t12)), (13, .l (.z (.int .i64) 0)), (14, .l (.z (.int .i64) z.1)), (15, .l (.z (.int .i64) z.2))], []⟩ : AState)) (fun z => z.1 = cmpI (floorR x y) 0 ∧ z.2 = 0) ?_ ?_
        · refine r_region hG (by simp only [hT, tab4, cWorks, cDraft, cDivT, cMulT, cIs, cAddT, cIsF, cSubT, cCmpT, mx0, mx1, mx2, mx3, mx4, mx5, effOp, endCall, callOp, appendOp, sliceLV, Ty.fieldTy, Ty.fieldOf, Nat.reduceLT, Nat.reduceEqDiff, Nat.reduceAdd, Nat.reduceMul, Nat.reduceSub, Nat.reduceLeDiff, Nat.reduceBEq, Nat.reduceBNe, reduceIte, reduceDIte, reduceCtorEq]; rfl) ?_ ?_ -- R11
          · try simp only [and_true, true_and]
            exact ⟨oR.short, okt0.short⟩
          show ∃ z, _
          simp only [ml0, ml1, Nat.reduceLT, Nat.reduceEqDiff, Nat.reduceAdd, Nat.reduceMul, Nat.reduceSub, Nat.reduceLeDiff, Nat.reduceBEq, Nat.reduceBNe, reduceIte, reduceDIte, reduceCtorEq]
          exact cmp_okt oR okt0
        rintro ⟨c14, e14⟩ ⟨k14, he14⟩
        try dsimp only at k14 he14
        subst he14
        refine r_cut (fun (z : Int × Int) => (⟨[(6, .l (.z .str sb)), (8, .l (.z .str r)), (12, .l (.z .str t12)), (13, .l (.z (.int .i64) 0)), (14, .l (.z (.int .i64) c14)), (15, .l (.z (.int .i64) 0)), (16, .l (.z (.int .i64) z.1)), (17, .l (.z (.int .i64) z.2))], []⟩ : AState)) (fun z => z.1 = cmpI (floorR x y - y) 0 ∧ z.2 = 0) ?_ ?_
        · refine r_region hG (by simp only [hT, tab4, cWorks, cDraft, cDivT, cMulT, cIs, cAddT, cIsF, cSubT, cCmpT, mx0, mx1, mx2, mx3, mx4, mx5, effOp, endCall, callOp, appendOp, sliceLV, Ty.fieldTy, Ty.fieldOf, Nat.reduceLT, Nat.reduceEqDiff, Nat.reduceAdd, Nat.reduceMul, Nat.reduceSub, Nat.reduceLeDiff, Nat.reduceBEq, Nat.reduceBNe, reduceIte, reduceDIte, reduceCtorEq]; rfl) ?_ ?_ -- R12
          · try simp only [and_true, true_and]
            exact ⟨o12.short, okt0.short⟩
          show ∃ z, _
          simp only [ml0, ml1, Nat.reduceLT, Nat.reduceEqDiff, Nat.reduceAdd, Nat.reduceMul, Nat.reduceSub, Nat.reduceLeDiff, Nat.reduceBEq, Nat.reduceBNe, reduceIte, reduceDIte, reduceCtorEq]
          exact cmp_okt o12 okt0
        rintro ⟨c16, e16⟩ ⟨k16, he16⟩
        try dsimp only at k16 he16
        subst he16
        refine r_cut (fun (z : Int × Int) => (⟨[(6, .l (.z .str sb)), (8, .l (.z .str r)), (12, .l (.z .str t12)), (13, .l (.z (.int .i64) 0)), (14, .l (.z (.int .i64) c14)), (15, .l (.z (.int .i64) 0)), (16, .l (.z (.int .i64) c16)), (17, .l (.z (.int .i64) 0)), (18, .l (.z (.int .i64) z.1)), (19, .l (.z (.int .i64) z.2))], []⟩ : AState)) (fun z => z.1 = cmpI y 0 ∧ z.2 = 0) ?_ ?_
        · refine r_region hG (by simp only [hT, tab4, cWorks, cDraft, cDivT, cMulT, cIs, cAddT, cIsF, cSubT, cCmpT, mx0, mx1, mx2, mx3, mx4, mx5, effOp, endCall, callOp, appendOp, sliceLV, Ty.fieldTy, Ty.fieldOf, Nat.reduceLT, Nat.reduceEqDiff, Nat.reduceAdd, Nat.reduceMul, Nat.reduceSub, Nat.reduceLeDiff, Nat.reduceBEq, Nat.reduceBNe, reduceIte, reduceDIte, reduceCtorEq]; rfl) ?_ ?_ -- R13
          · try simp only [and_true, true_and]
            exact ⟨ob.short, okt0.short⟩
          show ∃ z, _
          simp only [ml0, ml1, Nat.reduceLT, Nat.reduceEqDiff, Nat.reduceAdd, Nat.reduceMul, Nat.reduceSub, Nat.reduceLeDiff, Nat.reduceBEq, Nat.reduceBNe, reduceIte, reduceDIte, reduceCtorEq]
          exact cmp_okt ob okt0
        rintro ⟨c18, e18⟩ ⟨k18, he18⟩
        try dsimp only at k18 he18
        subst he18
        refine r_seq ?_
        refine r_region hG (by simp only [hT, tab4, cWorks, cDraft, cDivT, cMulT, cIs, cAddT, cIsF, cSubT, cCmpT, mx0, mx1, mx2, mx3, mx4, mx5, effOp, endCall, callOp, appendOp, sliceLV, Ty.fieldTy, Ty.fieldOf, Nat.reduceLT, Nat.reduceEqDiff, Nat.reduceAdd, Nat.reduceMul, Nat.reduceSub, Nat.reduceLeDiff, Nat.reduceBEq, Nat.reduceBNe, reduceIte, reduceDIte, reduceCtorEq]; rfl) ?_ ?_ -- R14
        · try simp only [and_true, true_and]
          exact ⟨fun h => h, fun h => by rw [h]; rfl, fun h => h⟩
        refine k_seq ?_
        refine r_ret ?_
        refine ⟨[], ?_⟩
        simp only [hT, tab4, mr0, mr1, mr2, Nat.reduceLT, Nat.reduceEqDiff, Nat.reduceAdd, Nat.reduceMul, Nat.reduceSub, Nat.reduceLeDiff, Nat.reduceBEq, Nat.reduceBNe, reduceIte, reduceDIte, reduceCtorEq]
        exact sign_fin hy k14 k16 k18

end Go.Proofs.YtkgbdpmhdplddaaDoor
end

section
/- The law WholeDivides: its row, its card. -/
namespace Go.Proofs.YtkgbdpmhdplddaaDoor.wholeDivides
open Go Go.Cm Go.Proofs Go.ChangeShapes Go.WideShapes Go.ChangeAt Go.RowKit Go.Deep Go.Joins
set_option maxRecDepth 100000

theorem own : ownKnob Tryd.prog.godebug = none := by kernel_rfl
theorem rets : Tryd.f4.resultTypes = #[4] := by kernel_rfl
theorem bools : Tryd.prog.underlying 4 = some .bool := by kernel_rfl
def tys : List Ty := [(.st (.pair .bool (.pair (.slice (.int .u8)) (.int .u8)))), (.st (.pair .bool (.pair (.slice (.int .u8)) (.int .u8))))]
theorem reads : rdAll Tryd.prog tys Tryd.f4.params.toList = true := by kernel_rfl
theorem spec : TrueSpec Rows.wholeDividesSpec tys.length := ⟨rfl, fun _ ds h => match ds, h with | [a0, a1], _ => rfl⟩
abbrev vals : Array Value := #[.agg #[.bool false, .slice none 0 0, .int .u8 0], .agg #[.bool false, .slice none 0 0, .int .u8 0]]
theorem met (os : Os) : laidMet Tryd.prog Rows.wholeDividesRow.laid ((lawWorld os).forCall (fun _ _ => 0) ⟨#[], vals, []⟩).memory :=
  laidMet_of_run3 8 (by kernel_rfl) (by kernel_rfl) (by kernel_rfl)
theorem witness (os : Os) {H : Type} (enc : TypeId × Value → H) : ∃ places, DataW.whole enc Tryd.prog ((lawWorld os).forCall (fun _ _ => 0) ⟨#[], vals, []⟩).memory Tryd.f4.params.toList Rows.wholeDividesSpec.vars false vals.toList 8 = some ([.agg [.lit (.bool false), .nil, .lit (.int .u8 0)], .agg [.lit (.bool false), .nil, .lit (.int .u8 0)]], [], places) :=
  ⟨[], by kernel_rfl⟩
theorem tabs {W : World} (h : laidMetH Tryd.prog Rows.wholeDividesRow.laid W) : Tabs (lawBase W) := by
  have hL : laidMet Tryd.prog Rows.wholeDividesRow.laid W := h
  exact fun w hw => pow_tab (laidMet.tail (laidMet.tail hL)) w hw

theorem lifted (os : Os) (started : os.Started) (H : Type) (enc : TypeId × Value → H) (F : Stop.Interp) :
    ReturnsInHanded {} Tryd.checked os 4 .any ((OpenSpec.ofChange Rows.wholeDividesSpec).preRow enc Tryd.prog Tryd.f4 Rows.wholeDividesRow.domain false Rows.wholeDividesRow.laid) (((OpenSpec.ofChange Rows.wholeDividesSpec).at F).post enc Tryd.prog Tryd.f4 false true false false) := by
  obtain ⟨places, hx⟩ := witness os enc
  refine returnsInHanded_of_row (C := Tryd.checked) (s := OpenSpec.ofChange Rows.wholeDividesSpec) own started (by kernel_rfl) Tryd.func4
    (witness_row_at (enc := enc) (C := Tryd.checked) false (lawWorld os) vals rfl (by kernel_rfl) (by kernel_rfl) (by kernel_rfl)
      (OpenSpec.preRow_of_cond 8 hx (by kernel_rfl) (fun k hk => by cases hk) (by kernel_rfl) (met os))) ?_
  intro W base args ds gs before hval hW _ _ _ hL _ _
  exact row_contract (ts := tys) (con := cDivLaw) reads rets bools spec (fun x h => by obtain ⟨x0, x1, ⟨⟩⟩ := x; obtain ⟨h0, h1, -⟩ := h; exact ⟨_, rfl, ⟨dok_of h0, dok_of h1⟩⟩) (valid4 (tabs hL)) hval hW

theorem said : Rows.WholeDividesSaid :=
  OpenClaim.holds_of_cond 4 Tryd.f4 rfl rfl rfl rfl rfl rfl rfl ⟨rfl, rfl, rfl, rfl, rfl⟩ rfl rfl rfl rfl rfl (by kernel_rfl) Tryd.func4 (by kernel_rfl)
    (of_decide_eq_true (by kernel_rfl)) (by unfold Func.isWrapper; first | (rw [if_pos (by decide +kernel)]; kernel_rfl) | (rw [if_neg (by decide +kernel)]; exact ⟨rfl, rfl⟩))
    (fun os started H enc _ F => by rw [OpenClaim.pre_eq_preRow]; exact lifted os started H enc F)

theorem plain (f : FuncId) (fn : Func) (hf : Tryd.pinned.checked.prog.funcNamed "croupier/croupierlaw01.WholeDivides" = some f) (hfn : Tryd.pinned.checked.prog.funcs[f]? = some fn) :
    true = Tryd.pinned.checked.prog.looks [] ∧ ∀ (j : Nat) t, fn.params[j]? = some t → Tryd.pinned.checked.prog.wantsStandIn t = false := by
  obtain rfl : f = 4 := Option.some.inj ((show Tryd.prog.funcNamed "croupier/croupierlaw01.WholeDivides" = some 4 by kernel_rfl).symm.trans hf) |>.symm
  obtain rfl : fn = Tryd.f4 := (Option.some.inj (Tryd.func4.symm.trans hfn)).symm
  refine ⟨by kernel_rfl, fun j t ht => ?_⟩
  have hall : Tryd.f4.params.toList.all (fun t => !Tryd.prog.wantsStandIn t) = true := by kernel_rfl
  have := List.all_eq_true.1 hall t (by simpa using Array.mem_of_getElem? ht)
  exact (by simpa using this : Tryd.prog.wantsStandIn t = false)

theorem card : Rows.WholeDividesCardSaid :=
  Claim7.holds_tied_plain_at .later [] _ _ _ _ said (fun _ h => by cases h) (by kernel_rfl) (fun _ h => by cases h) wholeDivides_row_tie rfl ⟨rfl, rfl⟩ (by kernel_rfl) rfl plain (by kernel_rfl)

end Go.Proofs.YtkgbdpmhdplddaaDoor.wholeDivides
end
