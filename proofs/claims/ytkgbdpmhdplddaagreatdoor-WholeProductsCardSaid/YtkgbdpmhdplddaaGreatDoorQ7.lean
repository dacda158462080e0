/- WholeProducts holds for all texts and drafts: its row and card. -/
import Derived.Test.YtkgbdpmhdplddaaGreatDoorQ3
import Derived.Test.YtkgbdpmhdplddaaGreatDoorProg
import Derived.Test.YtkgbdpmhdplddaaGreatDoorQ5
import Derived.Test.YtkgbdpmhdplddaaGreatDoorQ6
import Derived.WalkKit
set_option linter.all false
set_option linter.unusedSimpArgs false
set_option linter.unusedVariables false

section
/- The functions of the package exact, one after the other: each meets its contract. -/
set_option linter.unusedSimpArgs false
set_option linter.unusedVariables false
set_option maxRecDepth 100000
namespace Go.Proofs.YtkgbdpmhdplddaaGreatDoor
open Go Go.Cm Go.Proofs

def tab328 (B : Base) : Tab := { types := [(3, (.int .i64)), (9, .str), (24, (.st (.pair .bool (.pair (.slice (.int .u8)) (.int .u8))))), (29, (.int .i64)), (37, (.arr 2 .str)), (38, (.arr 4 (.arr 2 .str)))], elems := [], cons := [(6, cWorks), (7, cLCut), (8, cDraft), (10, cRCheck), (14, cMulT), (15, cDivT), (16, cGcdT), (17, cLTold), (18, cRMul), (19, cRGcd), (20, cRDiv)], hint := [], N := 167, base := B }
theorem good328 {B : Base} (hB : Tabs B) : MGood Tryz.prog (tab328 B) := ⟨⟨types_cons ty3 (types_cons ty9 (types_cons ty24 (types_cons ty29 (types_cons ty37 (types_cons ty38 (types_nil)))))), elems_nil, by simp only [tab328, ioB]; omega⟩, cons_ok (cals_cons (cal_ok Tryz.func6 (by kernel_rfl) rfl (valid8 hB)) (cals_cons (cal_ok Tryz.func7 (by kernel_rfl) rfl (valid324 hB)) (cals_cons (cal_ok Tryz.func8 (by kernel_rfl) rfl (valid9 hB)) (cals_cons (cal_ok Tryz.func10 (by kernel_rfl) rfl (valid302 hB)) (cals_cons (cal_ok Tryz.func14 (by kernel_rfl) rfl (valid11 hB)) (cals_cons (cal_ok Tryz.func15 (by kernel_rfl) rfl (valid14 hB)) (cals_cons (cal_ok Tryz.func16 (by kernel_rfl) rfl (valid16 hB)) (cals_cons (cal_ok Tryz.func17 (by kernel_rfl) rfl (valid326 hB)) (cals_cons (cal_ok Tryz.func18 (by kernel_rfl) rfl (valid318 hB)) (cals_cons (cal_ok Tryz.func19 (by kernel_rfl) rfl (valid320 hB)) (cals_cons (cal_ok Tryz.func20 (by kernel_rfl) rfl (valid319 hB)) (cals_nil)))))))))))), by kernel_rfl⟩
def cLWP : Con := fun l os => match l, os with
  | [.z .str s, .z .str t, .z (.st (.pair .bool (.pair (.slice (.int .u8)) (.int .u8)))) a, .z (.st (.pair .bool (.pair (.slice (.int .u8)) (.int .u8)))) b], [] => some (DOK a ∧ DOK b, [.z .bool true], [])
  | _, _ => none

set_option maxHeartbeats 2000000 in
theorem valid328 {B : Base} (hB : Tabs B) : Valid B Tryz.prog 4 cLWP := by
  refine valid_of_J (T := tab328 B) (good328 hB).tab Tryz.func4 rfl rfl rfl ?_
  intro args os C rs os' hc hC
  unfold cLWP at hc
  split at hc
  case h_2 => cases hc
  rename_i s t a b
  cases hc
  refine ⟨by simp only [List.length_cons, List.length_nil, tab328]; omega, rfl, ?_⟩
  intro X hP hT hr
  have hG : MGood X.P X.T := by rw [hP, hT]; exact good328 hB
  unfold tab328 at hT
  have hX := And.intro (@cWorks.eq_1) <| And.intro (@cLCut.eq_1) <| And.intro (@cDraft.eq_1) <| And.intro (@cMulT.eq_1) <| And.intro (@cDivT.eq_1) <| And.intro (@cGcdT.eq_1) <| And.intro (@cRCheck.eq_1) <| And.intro (@cLTold.eq_1) <| And.intro (@cRMul.eq_1) <| And.intro (@cRGcd.eq_1) <| @cRDiv.eq_1
  simp only [Tryz.f4, argEnv, ioList, ioB]
  refine r_seq ?_
  refine r_region hG (by simp only [hT, tab328, Int.toNat_zero, Int.toNat_one, Nat.zero_mul, Nat.one_mul, Nat.add_zero, Nat.zero_add, List.replicate_succ, List.replicate_zero, List.flatten_cons, List.flatten_nil, List.cons_append, List.nil_append, cWorks, cLCut, cDraft, cMulT, cDivT, cGcdT, cRCheck, cLTold, cRMul, cRGcd, cRDiv, mx0, mx1, mx2, mx3, mx4, mx5, effOp, endCall, callOp, appendOp, sliceLV, Ty.fieldTy, Ty.fieldOf, Nat.reduceLT, Nat.reduceEqDiff, Nat.reduceAdd, Nat.reduceMul, Nat.reduceSub, Nat.reduceLeDiff, Nat.reduceBEq, Nat.reduceBNe, reduceIte, reduceDIte, reduceCtorEq]; rfl) ?_ ?_ -- R0
  · trivial
  refine k_seq ?_
  refine r_seq ?_
  refine r_seq ?_
  refine r_region hG (by simp only [hT, tab328, Int.toNat_zero, Int.toNat_one, Nat.zero_mul, Nat.one_mul, Nat.add_zero, Nat.zero_add, List.replicate_succ, List.replicate_zero, List.flatten_cons, List.flatten_nil, List.cons_append, List.nil_append, cWorks, cLCut, cDraft, cMulT, cDivT, cGcdT, cRCheck, cLTold, cRMul, cRGcd, cRDiv, mx0, mx1, mx2, mx3, mx4, mx5, effOp, endCall, callOp, appendOp, sliceLV, Ty.fieldTy, Ty.fieldOf, Nat.reduceLT, Nat.reduceEqDiff, Nat.reduceAdd, Nat.reduceMul, Nat.reduceSub, Nat.reduceLeDiff, Nat.reduceBEq, Nat.reduceBNe, reduceIte, reduceDIte, reduceCtorEq]; rfl) ?_ ?_ -- R1
  · trivial
  refine k_seq ?_
  refine r_cond (by simp only [hT, tab328, Int.toNat_zero, Int.toNat_one, Nat.zero_mul, Nat.one_mul, Nat.add_zero, Nat.zero_add, List.replicate_succ, List.replicate_zero, List.flatten_cons, List.flatten_nil, List.cons_append, List.nil_append, mx0, mx1, mx2, mx3, mx4, mx5, effOp, endCall, callOp, appendOp, sliceLV, Ty.fieldTy, Ty.fieldOf, Nat.reduceLT, Nat.reduceEqDiff, Nat.reduceAdd, Nat.reduceMul, Nat.reduceSub, Nat.reduceLeDiff, Nat.reduceBEq, Nat.reduceBNe, reduceIte, reduceDIte, reduceCtorEq]; rfl) ?_ ?_
  · intro hb0
    cases hb0
  · intro hb0
    try simp only [decide_eq_true_eq, decide_eq_false_iff_not, beq_eq_false_iff_ne, bne_eq_false_iff_eq, Bool.not_eq_false', Bool.and_eq_false_imp] at hb0
    refine r_skip ?_
    refine k_seq ?_
    refine r_seq ?_
    refine r_seq ?_
    refine r_draw hG (by simp only [hT, mt0, tab328, Int.toNat_zero, Int.toNat_one, Nat.zero_mul, Nat.one_mul, Nat.add_zero, Nat.zero_add, List.replicate_succ, List.replicate_zero, List.flatten_cons, List.flatten_nil, List.cons_append, List.nil_append, cWorks, cLCut, cDraft, cMulT, cDivT, cGcdT, cRCheck, cLTold, cRMul, cRGcd, cRDiv, mx0, mx1, mx2, mx3, mx4, mx5, effOp, endCall, callOp, appendOp, sliceLV, Ty.fieldTy, Ty.fieldOf, Nat.reduceLT, Nat.reduceEqDiff, Nat.reduceAdd, Nat.reduceMul, Nat.reduceSub, Nat.reduceLeDiff, Nat.reduceBEq, Nat.reduceBNe, reduceIte, reduceDIte, reduceCtorEq]; rfl) (by kernel_rfl) (by rfl) (by rfl) ?_ ?_ -- R3
    · try simp only [and_true, true_and]
      simp [hC.1, hC.2]
    refine k_seq ?_
    refine j_block ?_
    refine j_loop (fun (z : Nat) => (⟨[(0, .l (.z .str s)), (1, .l (.z .str t)), (6, .l (.z (.ptr (.st (.pair .bool (.pair (.slice (.int .u8)) (.int .u8))))) a)), (7, .l (.z (.ptr (.st (.pair .bool (.pair (.slice (.int .u8)) (.int .u8))))) b)), (43, .l (.z (.arr 4 (.arr 2 .str)) [[s.take 60, t.take 60], [s.take 60, dtext b], [dtext a, t.take 60], [dtext a, dtext b]])), (44, .l (.z (.int .i64) (z : Int)))], []⟩ : AState)) (fun z => z ≤ 4) (fun z => 4 - z) 0 ?_ ?_ ?_
    · simp only [ml0, ml1, Nat.reduceLT, Nat.reduceEqDiff, Nat.reduceAdd, Nat.reduceMul, Nat.reduceSub, Nat.reduceLeDiff, Nat.reduceBEq, Nat.reduceBNe, reduceIte, reduceDIte, reduceCtorEq]
      rfl
    · omega
    · rintro k hk
      try dsimp only at hk
      refine r_seq ?_
      refine r_region hG (by simp only [hT, tab328, Int.toNat_zero, Int.toNat_one, Nat.zero_mul, Nat.one_mul, Nat.add_zero, Nat.zero_add, List.replicate_succ, List.replicate_zero, List.flatten_cons, List.flatten_nil, List.cons_append, List.nil_append, cWorks, cLCut, cDraft, cMulT, cDivT, cGcdT, cRCheck, cLTold, cRMul, cRGcd, cRDiv, mx0, mx1, mx2, mx3, mx4, mx5, effOp, endCall, callOp, appendOp, sliceLV, Ty.fieldTy, Ty.fieldOf, Nat.reduceLT, Nat.reduceEqDiff, Nat.reduceAdd, Nat.reduceMul, Nat.reduceSub, Nat.reduceLeDiff, Nat.reduceBEq, Nat.reduceBNe, reduceIte, reduceDIte, reduceCtorEq]; rfl) ?_ ?_ -- R4
      · trivial
      refine k_seq ?_
      refine r_seq ?_
      refine r_cond (by simp only [hT, tab328, Int.toNat_zero, Int.toNat_one, Nat.zero_mul, Nat.one_mul, Nat.add_zero, Nat.zero_add, List.replicate_succ, List.replicate_zero, List.flatten_cons, List.flatten_nil, List.cons_append, List.nil_append, mx0, mx1, mx2, mx3, mx4, mx5, effOp, endCall, callOp, appendOp, sliceLV, Ty.fieldTy, Ty.fieldOf, Nat.reduceLT, Nat.reduceEqDiff, Nat.reduceAdd, Nat.reduceMul, Nat.reduceSub, Nat.reduceLeDiff, Nat.reduceBEq, Nat.reduceBNe, reduceIte, reduceDIte, reduceCtorEq]; rfl) ?_ ?_
      · intro hb1
        try simp only [decide_eq_true_eq] at hb1
        obtain ⟨x, y, hxy, hx, hy⟩ := pair_at ⟨sm60 s, sm60 t, d_sm hC.1, d_sm hC.2⟩ hb1
        refine r_skip ?_
        refine k_seq ?_
        refine r_seq ?_
        refine j_block ?_
        refine r_seq ?_
        refine r_region hG (by simp only [hxy, hT, tab328, Int.toNat_zero, Int.toNat_one, Nat.zero_mul, Nat.one_mul, Nat.add_zero, Nat.zero_add, List.replicate_succ, List.replicate_zero, List.flatten_cons, List.flatten_nil, List.cons_append, List.nil_append, cWorks, cLCut, cDraft, cMulT, cDivT, cGcdT, cRCheck, cLTold, cRMul, cRGcd, cRDiv, mx0, mx1, mx2, mx3, mx4, mx5, effOp, endCall, callOp, appendOp, sliceLV, Ty.fieldTy, Ty.fieldOf, Nat.reduceLT, Nat.reduceEqDiff, Nat.reduceAdd, Nat.reduceMul, Nat.reduceSub, Nat.reduceLeDiff, Nat.reduceBEq, Nat.reduceBNe, reduceIte, reduceDIte, reduceCtorEq]; rfl) ?_ ?_ -- R5
        · try simp only [and_true, true_and]
          exact ⟨by omega, by show (k : Int) < 4; omega⟩
        refine k_seq ?_
        refine r_seq ?_
        refine r_region hG (by simp only [hT, tab328, Int.toNat_zero, Int.toNat_one, Nat.zero_mul, Nat.one_mul, Nat.add_zero, Nat.zero_add, List.replicate_succ, List.replicate_zero, List.flatten_cons, List.flatten_nil, List.cons_append, List.nil_append, cWorks, cLCut, cDraft, cMulT, cDivT, cGcdT, cRCheck, cLTold, cRMul, cRGcd, cRDiv, mx0, mx1, mx2, mx3, mx4, mx5, effOp, endCall, callOp, appendOp, sliceLV, Ty.fieldTy, Ty.fieldOf, Nat.reduceLT, Nat.reduceEqDiff, Nat.reduceAdd, Nat.reduceMul, Nat.reduceSub, Nat.reduceLeDiff, Nat.reduceBEq, Nat.reduceBNe, reduceIte, reduceDIte, reduceCtorEq]; rfl) ?_ ?_ -- R6
        · try simp only [and_true, true_and]
          exact ⟨⟨by decide, by decide⟩, ⟨by decide, by decide⟩, hx.short, hy.short⟩
        refine k_seq ?_
        refine r_seq ?_
        refine r_region hG (by simp only [hT, tab328, Int.toNat_zero, Int.toNat_one, Nat.zero_mul, Nat.one_mul, Nat.add_zero, Nat.zero_add, List.replicate_succ, List.replicate_zero, List.flatten_cons, List.flatten_nil, List.cons_append, List.nil_append, cWorks, cLCut, cDraft, cMulT, cDivT, cGcdT, cRCheck, cLTold, cRMul, cRGcd, cRDiv, mx0, mx1, mx2, mx3, mx4, mx5, effOp, endCall, callOp, appendOp, sliceLV, Ty.fieldTy, Ty.fieldOf, Nat.reduceLT, Nat.reduceEqDiff, Nat.reduceAdd, Nat.reduceMul, Nat.reduceSub, Nat.reduceLeDiff, Nat.reduceBEq, Nat.reduceBNe, reduceIte, reduceDIte, reduceCtorEq]; rfl) ?_ ?_ -- R7
        · try simp only [and_true, true_and]
          exact ⟨⟨by decide, by decide⟩, ⟨by decide, by decide⟩, hx.short, hy.short⟩
        refine k_seq ?_
        refine r_seq ?_
        refine r_region hG (by simp only [hT, tab328, Int.toNat_zero, Int.toNat_one, Nat.zero_mul, Nat.one_mul, Nat.add_zero, Nat.zero_add, List.replicate_succ, List.replicate_zero, List.flatten_cons, List.flatten_nil, List.cons_append, List.nil_append, cWorks, cLCut, cDraft, cMulT, cDivT, cGcdT, cRCheck, cLTold, cRMul, cRGcd, cRDiv, mx0, mx1, mx2, mx3, mx4, mx5, effOp, endCall, callOp, appendOp, sliceLV, Ty.fieldTy, Ty.fieldOf, Nat.reduceLT, Nat.reduceEqDiff, Nat.reduceAdd, Nat.reduceMul, Nat.reduceSub, Nat.reduceLeDiff, Nat.reduceBEq, Nat.reduceBNe, reduceIte, reduceDIte, reduceCtorEq]; rfl) ?_ ?_ -- R8
        · try simp only [and_true, true_and]
          exact ⟨⟨by decide, by decide⟩, ⟨by decide, by decide⟩, hx.short, hy.short⟩
        refine k_seq ?_
        refine r_seq ?_
        refine r_region hG (by simp only [hT, tab328, Int.toNat_zero, Int.toNat_one, Nat.zero_mul, Nat.one_mul, Nat.add_zero, Nat.zero_add, List.replicate_succ, List.replicate_zero, List.flatten_cons, List.flatten_nil, List.cons_append, List.nil_append, cWorks, cLCut, cDraft, cMulT, cDivT, cGcdT, cRCheck, cLTold, cRMul, cRGcd, cRDiv, mx0, mx1, mx2, mx3, mx4, mx5, effOp, endCall, callOp, appendOp, sliceLV, Ty.fieldTy, Ty.fieldOf, Nat.reduceLT, Nat.reduceEqDiff, Nat.reduceAdd, Nat.reduceMul, Nat.reduceSub, Nat.reduceLeDiff, Nat.reduceBEq, Nat.reduceBNe, reduceIte, reduceDIte, reduceCtorEq]; rfl) ?_ ?_ -- R9
        · try simp only [and_true, true_and]
          exact ⟨⟨by decide, by decide⟩, hx.cap⟩
        refine k_seq ?_
        refine r_cut (fun (z : Unit) => (⟨[(0, .l (.z .str s)), (1, .l (.z .str t)), (6, .l (.z (.ptr (.st (.pair .bool (.pair (.slice (.int .u8)) (.int .u8))))) a)), (7, .l (.z (.ptr (.st (.pair .bool (.pair (.slice (.int .u8)) (.int .u8))))) b)), (43, .l (.z (.arr 4 (.arr 2 .str)) [[s.take 60, t.take 60], [s.take 60, dtext b], [dtext a, t.take 60], [dtext a, dtext b]])), (44, .l (.z (.int .i64) (k : Int))), (10, .l (.ownP 10 0)), (11, .l (.z .str (resS (chkAll [x, y]) (numI x * numI y)))), (12, .l (.z (.int .i64) (resE (chkAll [x, y]) (numI x * numI y)))), (13, .l (.z .str (divV1 x y))), (14, .l (.z .str (divV2 x y))), (15, .l (.z (.int .i64) (divVE x y))), (16, .l (.z .str (resS (chkAll [x, y]) (gcdI (numI x) (numI y))))), (17, .l (.z (.int .i64) (resE (chkAll [x, y]) (gcdI (numI x) (numI y))))), (18, .l (.z (.int .i64) (chkAll [x, y])))], [(10, .box 37 [.z .str x, .z .str y])]⟩ : AState)) (fun z => True) ?_ ?_
        · refine r_seq ?_
          refine r_region hG (by simp only [hT, tab328, Int.toNat_zero, Int.toNat_one, Nat.zero_mul, Nat.one_mul, Nat.add_zero, Nat.zero_add, List.replicate_succ, List.replicate_zero, List.flatten_cons, List.flatten_nil, List.cons_append, List.nil_append, cWorks, cLCut, cDraft, cMulT, cDivT, cGcdT, cRCheck, cLTold, cRMul, cRGcd, cRDiv, mx0, mx1, mx2, mx3, mx4, mx5, effOp, endCall, callOp, appendOp, sliceLV, Ty.fieldTy, Ty.fieldOf, Nat.reduceLT, Nat.reduceEqDiff, Nat.reduceAdd, Nat.reduceMul, Nat.reduceSub, Nat.reduceLeDiff, Nat.reduceBEq, Nat.reduceBNe, reduceIte, reduceDIte, reduceCtorEq]; rfl) ?_ ?_ -- R10
          · trivial
          refine k_seq ?_
          refine r_cond (by simp only [hT, tab328, Int.toNat_zero, Int.toNat_one, Nat.zero_mul, Nat.one_mul, Nat.add_zero, Nat.zero_add, List.replicate_succ, List.replicate_zero, List.flatten_cons, List.flatten_nil, List.cons_append, List.nil_append, mx0, mx1, mx2, mx3, mx4, mx5, effOp, endCall, callOp, appendOp, sliceLV, Ty.fieldTy, Ty.fieldOf, Nat.reduceLT, Nat.reduceEqDiff, Nat.reduceAdd, Nat.reduceMul, Nat.reduceSub, Nat.reduceLeDiff, Nat.reduceBEq, Nat.reduceBNe, reduceIte, reduceDIte, reduceCtorEq]; rfl) ?_ ?_
          · intro hb2
            try simp only [decide_eq_true_eq, decide_eq_false_iff_not, beq_iff_eq, bne_iff_ne, Bool.not_eq_true', Bool.and_eq_true] at hb2
            refine r_region hG (by simp only [hT, tab328, Int.toNat_zero, Int.toNat_one, Nat.zero_mul, Nat.one_mul, Nat.add_zero, Nat.zero_add, List.replicate_succ, List.replicate_zero, List.flatten_cons, List.flatten_nil, List.cons_append, List.nil_append, cWorks, cLCut, cDraft, cMulT, cDivT, cGcdT, cRCheck, cLTold, cRMul, cRGcd, cRDiv, mx0, mx1, mx2, mx3, mx4, mx5, effOp, endCall, callOp, appendOp, sliceLV, Ty.fieldTy, Ty.fieldOf, Nat.reduceLT, Nat.reduceEqDiff, Nat.reduceAdd, Nat.reduceMul, Nat.reduceSub, Nat.reduceLeDiff, Nat.reduceBEq, Nat.reduceBNe, reduceIte, reduceDIte, reduceCtorEq]; rfl) ?_ ?_ -- R11
            · try simp only [and_true, true_and]
              exact ⟨⟨by decide, by decide⟩, hy.cap⟩
            show ∃ z, _
            simp only [ml0, ml1, Nat.reduceLT, Nat.reduceEqDiff, Nat.reduceAdd, Nat.reduceMul, Nat.reduceSub, Nat.reduceLeDiff, Nat.reduceBEq, Nat.reduceBNe, reduceIte, reduceDIte, reduceCtorEq]
            first | exact chk_two.1 hb2 | exact chk_two.2 hb2
          · intro hb2
            try simp only [decide_eq_true_eq, decide_eq_false_iff_not, beq_eq_false_iff_ne, bne_eq_false_iff_eq, Bool.not_eq_false', Bool.and_eq_false_imp] at hb2
            refine r_skip ?_
            show ∃ z, _
            simp only [ml0, ml1, Nat.reduceLT, Nat.reduceEqDiff, Nat.reduceAdd, Nat.reduceMul, Nat.reduceSub, Nat.reduceLeDiff, Nat.reduceBEq, Nat.reduceBNe, reduceIte, reduceDIte, reduceCtorEq]
            first | exact chk_two.1 hb2 | exact chk_two.2 hb2
        rintro ⟨⟩ hu
        try dsimp only at hu
        refine r_seq ?_
        refine r_seq ?_
        refine r_region hG (by simp only [hT, tab328, Int.toNat_zero, Int.toNat_one, Nat.zero_mul, Nat.one_mul, Nat.add_zero, Nat.zero_add, List.replicate_succ, List.replicate_zero, List.flatten_cons, List.flatten_nil, List.cons_append, List.nil_append, cWorks, cLCut, cDraft, cMulT, cDivT, cGcdT, cRCheck, cLTold, cRMul, cRGcd, cRDiv, mx0, mx1, mx2, mx3, mx4, mx5, effOp, endCall, callOp, appendOp, sliceLV, Ty.fieldTy, Ty.fieldOf, Nat.reduceLT, Nat.reduceEqDiff, Nat.reduceAdd, Nat.reduceMul, Nat.reduceSub, Nat.reduceLeDiff, Nat.reduceBEq, Nat.reduceBNe, reduceIte, reduceDIte, reduceCtorEq]; rfl) ?_ ?_ -- R12
        · trivial
        refine k_seq ?_
        refine r_cond (by simp only [hT, tab328, Int.toNat_zero, Int.toNat_one, Nat.zero_mul, Nat.one_mul, Nat.add_zero, Nat.zero_add, List.replicate_succ, List.replicate_zero, List.flatten_cons, List.flatten_nil, List.cons_append, List.nil_append, mx0, mx1, mx2, mx3, mx4, mx5, effOp, endCall, callOp, appendOp, sliceLV, Ty.fieldTy, Ty.fieldOf, Nat.reduceLT, Nat.reduceEqDiff, Nat.reduceAdd, Nat.reduceMul, Nat.reduceSub, Nat.reduceLeDiff, Nat.reduceBEq, Nat.reduceBNe, reduceIte, reduceDIte, reduceCtorEq]; rfl) ?_ ?_
        · intro hb3
          simp only [bne_iff_ne, ne_eq] at hb3
          refine r_seq ?_
          refine r_seq ?_
          refine r_region hG (by simp only [hT, tab328, Int.toNat_zero, Int.toNat_one, Nat.zero_mul, Nat.one_mul, Nat.add_zero, Nat.zero_add, List.replicate_succ, List.replicate_zero, List.flatten_cons, List.flatten_nil, List.cons_append, List.nil_append, cWorks, cLCut, cDraft, cMulT, cDivT, cGcdT, cRCheck, cLTold, cRMul, cRGcd, cRDiv, mx0, mx1, mx2, mx3, mx4, mx5, effOp, endCall, callOp, appendOp, sliceLV, Ty.fieldTy, Ty.fieldOf, Nat.reduceLT, Nat.reduceEqDiff, Nat.reduceAdd, Nat.reduceMul, Nat.reduceSub, Nat.reduceLeDiff, Nat.reduceBEq, Nat.reduceBNe, reduceIte, reduceDIte, reduceCtorEq]; rfl) ?_ ?_ -- R13
          · try simp only [and_true, true_and]
            repeat' (first | apply And.intro | exact fun h => h | (intro h; rw [h]; rfl) | (intro h; exact ⟨h, fun g => by rw [h, g]; rfl⟩))
          refine k_seq ?_
          refine r_cond (by simp only [hT, tab328, Int.toNat_zero, Int.toNat_one, Nat.zero_mul, Nat.one_mul, Nat.add_zero, Nat.zero_add, List.replicate_succ, List.replicate_zero, List.flatten_cons, List.flatten_nil, List.cons_append, List.nil_append, mx0, mx1, mx2, mx3, mx4, mx5, effOp, endCall, callOp, appendOp, sliceLV, Ty.fieldTy, Ty.fieldOf, Nat.reduceLT, Nat.reduceEqDiff, Nat.reduceAdd, Nat.reduceMul, Nat.reduceSub, Nat.reduceLeDiff, Nat.reduceBEq, Nat.reduceBNe, reduceIte, reduceDIte, reduceCtorEq]; rfl) ?_ ?_
          · intro hb4
            simp [bad_vals hb3, div_valsB hb3] at hb4
          · intro hb4
            try simp only [decide_eq_true_eq, decide_eq_false_iff_not, beq_eq_false_iff_ne, bne_eq_false_iff_eq, Bool.not_eq_false', Bool.and_eq_false_imp] at hb4
            refine r_skip ?_
            refine k_seq ?_
            refine r_exit ?_
            refine k_seq_exit ?_
            refine k_block_exit ?_
            refine k_seq ?_
            refine r_region hG (by simp only [hT, tab328, Int.toNat_zero, Int.toNat_one, Nat.zero_mul, Nat.one_mul, Nat.add_zero, Nat.zero_add, List.replicate_succ, List.replicate_zero, List.flatten_cons, List.flatten_nil, List.cons_append, List.nil_append, cWorks, cLCut, cDraft, cMulT, cDivT, cGcdT, cRCheck, cLTold, cRMul, cRGcd, cRDiv, mx0, mx1, mx2, mx3, mx4, mx5, effOp, endCall, callOp, appendOp, sliceLV, Ty.fieldTy, Ty.fieldOf, Nat.reduceLT, Nat.reduceEqDiff, Nat.reduceAdd, Nat.reduceMul, Nat.reduceSub, Nat.reduceLeDiff, Nat.reduceBEq, Nat.reduceBNe, reduceIte, reduceDIte, reduceCtorEq]; rfl) ?_ ?_ -- R23
            · trivial
            show ∃ z, _
            simp only [ml0, ml1, Nat.reduceLT, Nat.reduceEqDiff, Nat.reduceAdd, Nat.reduceMul, Nat.reduceSub, Nat.reduceLeDiff, Nat.reduceBEq, Nat.reduceBNe, reduceIte, reduceDIte, reduceCtorEq]
            exact ⟨k + 1, wi (by omega) (by omega), by omega, by omega⟩
        · intro hb3
          simp only [bne_eq_false_iff_eq] at hb3
          obtain ⟨gx, gy⟩ := two_zero hb3
          obtain ⟨o1, o2, o3, o4, o5, o6, o7⟩ := op_itoa gx gy
          have gt := gcd_told hb3
          have dv := div_vals0 hb3
          have hta := told_app (v := numI x * numI y) hb3
          refine r_skip ?_
          refine k_seq ?_
          refine r_seq ?_
          refine r_seq ?_
          refine r_region hG (by simp only [hT, tab328, Int.toNat_zero, Int.toNat_one, Nat.zero_mul, Nat.one_mul, Nat.add_zero, Nat.zero_add, List.replicate_succ, List.replicate_zero, List.flatten_cons, List.flatten_nil, List.cons_append, List.nil_append, cWorks, cLCut, cDraft, cMulT, cDivT, cGcdT, cRCheck, cLTold, cRMul, cRGcd, cRDiv, mx0, mx1, mx2, mx3, mx4, mx5, effOp, endCall, callOp, appendOp, sliceLV, Ty.fieldTy, Ty.fieldOf, Nat.reduceLT, Nat.reduceEqDiff, Nat.reduceAdd, Nat.reduceMul, Nat.reduceSub, Nat.reduceLeDiff, Nat.reduceBEq, Nat.reduceBNe, reduceIte, reduceDIte, reduceCtorEq]; rfl) ?_ ?_ -- R15
          · try simp only [and_true, true_and]
            exact ⟨⟨by decide, by decide⟩, ⟨by decide, by decide⟩, o1, o6, fun _ => ⟨by decide, by decide⟩, fun h => h, fun _ => ⟨by decide, by decide⟩, fun h => h, fun h => ⟨h, o3⟩, fun h => h, fun h => by rw [h]; rfl, fun h => h, fun h => by rw [h]; rfl⟩
          refine k_seq ?_
          refine r_cond (by simp only [hT, tab328, Int.toNat_zero, Int.toNat_one, Nat.zero_mul, Nat.one_mul, Nat.add_zero, Nat.zero_add, List.replicate_succ, List.replicate_zero, List.flatten_cons, List.flatten_nil, List.cons_append, List.nil_append, mx0, mx1, mx2, mx3, mx4, mx5, effOp, endCall, callOp, appendOp, sliceLV, Ty.fieldTy, Ty.fieldOf, Nat.reduceLT, Nat.reduceEqDiff, Nat.reduceAdd, Nat.reduceMul, Nat.reduceSub, Nat.reduceLeDiff, Nat.reduceBEq, Nat.reduceBNe, reduceIte, reduceDIte, reduceCtorEq]; rfl) ?_ ?_
          · intro hb5
            simp [(form_itoa _).2, hta, gt.1, gt.2] at hb5
          · intro hb5
            try simp only [decide_eq_true_eq, decide_eq_false_iff_not, beq_eq_false_iff_ne, bne_eq_false_iff_eq, Bool.not_eq_false', Bool.and_eq_false_imp] at hb5
            refine r_skip ?_
            refine k_seq ?_
            refine r_seq ?_
            refine r_seq ?_
            refine r_region hG (by simp only [hT, tab328, Int.toNat_zero, Int.toNat_one, Nat.zero_mul, Nat.one_mul, Nat.add_zero, Nat.zero_add, List.replicate_succ, List.replicate_zero, List.flatten_cons, List.flatten_nil, List.cons_append, List.nil_append, cWorks, cLCut, cDraft, cMulT, cDivT, cGcdT, cRCheck, cLTold, cRMul, cRGcd, cRDiv, mx0, mx1, mx2, mx3, mx4, mx5, effOp, endCall, callOp, appendOp, sliceLV, Ty.fieldTy, Ty.fieldOf, Nat.reduceLT, Nat.reduceEqDiff, Nat.reduceAdd, Nat.reduceMul, Nat.reduceSub, Nat.reduceLeDiff, Nat.reduceBEq, Nat.reduceBNe, reduceIte, reduceDIte, reduceCtorEq]; rfl) ?_ ?_ -- R17
            · try simp only [and_true, true_and]
              exact ⟨by decide, by decide⟩
            refine k_seq ?_
            refine r_cond (by simp only [hT, tab328, Int.toNat_zero, Int.toNat_one, Nat.zero_mul, Nat.one_mul, Nat.add_zero, Nat.zero_add, List.replicate_succ, List.replicate_zero, List.flatten_cons, List.flatten_nil, List.cons_append, List.nil_append, mx0, mx1, mx2, mx3, mx4, mx5, effOp, endCall, callOp, appendOp, sliceLV, Ty.fieldTy, Ty.fieldOf, Nat.reduceLT, Nat.reduceEqDiff, Nat.reduceAdd, Nat.reduceMul, Nat.reduceSub, Nat.reduceLeDiff, Nat.reduceBEq, Nat.reduceBNe, reduceIte, reduceDIte, reduceCtorEq]; rfl) ?_ ?_
            · intro hb6
              simp only [beq_iff_eq] at hb6
              have dz := dv.1 ((rf_zero o7.2.1).2 hb6)
              refine r_seq ?_
              refine r_seq ?_
              refine r_region hG (by simp only [hT, tab328, Int.toNat_zero, Int.toNat_one, Nat.zero_mul, Nat.one_mul, Nat.add_zero, Nat.zero_add, List.replicate_succ, List.replicate_zero, List.flatten_cons, List.flatten_nil, List.cons_append, List.nil_append, cWorks, cLCut, cDraft, cMulT, cDivT, cGcdT, cRCheck, cLTold, cRMul, cRGcd, cRDiv, mx0, mx1, mx2, mx3, mx4, mx5, effOp, endCall, callOp, appendOp, sliceLV, Ty.fieldTy, Ty.fieldOf, Nat.reduceLT, Nat.reduceEqDiff, Nat.reduceAdd, Nat.reduceMul, Nat.reduceSub, Nat.reduceLeDiff, Nat.reduceBEq, Nat.reduceBNe, reduceIte, reduceDIte, reduceCtorEq]; rfl) ?_ ?_ -- R18
              · try simp only [and_true, true_and]
                repeat' (first | apply And.intro | exact fun h => h | (intro h; rw [h]; rfl) | (intro h; exact ⟨h, fun g => by rw [h, g]; rfl⟩))
              refine k_seq ?_
              refine r_cond (by simp only [hT, tab328, Int.toNat_zero, Int.toNat_one, Nat.zero_mul, Nat.one_mul, Nat.add_zero, Nat.zero_add, List.replicate_succ, List.replicate_zero, List.flatten_cons, List.flatten_nil, List.cons_append, List.nil_append, mx0, mx1, mx2, mx3, mx4, mx5, effOp, endCall, callOp, appendOp, sliceLV, Ty.fieldTy, Ty.fieldOf, Nat.reduceLT, Nat.reduceEqDiff, Nat.reduceAdd, Nat.reduceMul, Nat.reduceSub, Nat.reduceLeDiff, Nat.reduceBEq, Nat.reduceBNe, reduceIte, reduceDIte, reduceCtorEq]; rfl) ?_ ?_
              · intro hb7
                simp [dz.1, dz.2.1, dz.2.2] at hb7
              · intro hb7
                try simp only [decide_eq_true_eq, decide_eq_false_iff_not, beq_eq_false_iff_ne, bne_eq_false_iff_eq, Bool.not_eq_false', Bool.and_eq_false_imp] at hb7
                refine r_skip ?_
                refine k_seq ?_
                refine r_exit ?_
                refine k_seq_exit ?_
                refine k_block_exit ?_
                refine k_seq ?_
                refine r_region hG (by simp only [hT, tab328, Int.toNat_zero, Int.toNat_one, Nat.zero_mul, Nat.one_mul, Nat.add_zero, Nat.zero_add, List.replicate_succ, List.replicate_zero, List.flatten_cons, List.flatten_nil, List.cons_append, List.nil_append, cWorks, cLCut, cDraft, cMulT, cDivT, cGcdT, cRCheck, cLTold, cRMul, cRGcd, cRDiv, mx0, mx1, mx2, mx3, mx4, mx5, effOp, endCall, callOp, appendOp, sliceLV, Ty.fieldTy, Ty.fieldOf, Nat.reduceLT, Nat.reduceEqDiff, Nat.reduceAdd, Nat.reduceMul, Nat.reduceSub, Nat.reduceLeDiff, Nat.reduceBEq, Nat.reduceBNe, reduceIte, reduceDIte, reduceCtorEq]; rfl) ?_ ?_ -- R23
                · trivial
                show ∃ z, _
                simp only [ml0, ml1, Nat.reduceLT, Nat.reduceEqDiff, Nat.reduceAdd, Nat.reduceMul, Nat.reduceSub, Nat.reduceLeDiff, Nat.reduceBEq, Nat.reduceBNe, reduceIte, reduceDIte, reduceCtorEq]
                exact ⟨k + 1, wi (by omega) (by omega), by omega, by omega⟩
            · intro hb6
              simp only [beq_eq_false_iff_ne, ne_eq] at hb6
              have hnz : numI y ≠ 0 := fun e => hb6 ((rf_zero o7.2.1).1 e)
              have dz := dv.2 hnz
              refine r_skip ?_
              refine k_seq ?_
              refine r_seq ?_
              refine r_region hG (by simp only [hT, tab328, Int.toNat_zero, Int.toNat_one, Nat.zero_mul, Nat.one_mul, Nat.add_zero, Nat.zero_add, List.replicate_succ, List.replicate_zero, List.flatten_cons, List.flatten_nil, List.cons_append, List.nil_append, cWorks, cLCut, cDraft, cMulT, cDivT, cGcdT, cRCheck, cLTold, cRMul, cRGcd, cRDiv, mx0, mx1, mx2, mx3, mx4, mx5, effOp, endCall, callOp, appendOp, sliceLV, Ty.fieldTy, Ty.fieldOf, Nat.reduceLT, Nat.reduceEqDiff, Nat.reduceAdd, Nat.reduceMul, Nat.reduceSub, Nat.reduceLeDiff, Nat.reduceBEq, Nat.reduceBNe, reduceIte, reduceDIte, reduceCtorEq]; rfl) ?_ ?_ -- R20
              · try simp only [and_true, true_and]
                exact ⟨⟨by decide, by decide⟩, ⟨by decide, by decide⟩, o3.1, o3.2, hnz⟩
              refine k_seq ?_
              refine r_seq ?_
              refine r_region hG (by simp only [hT, tab328, Int.toNat_zero, Int.toNat_one, Nat.zero_mul, Nat.one_mul, Nat.add_zero, Nat.zero_add, List.replicate_succ, List.replicate_zero, List.flatten_cons, List.flatten_nil, List.cons_append, List.nil_append, cWorks, cLCut, cDraft, cMulT, cDivT, cGcdT, cRCheck, cLTold, cRMul, cRGcd, cRDiv, mx0, mx1, mx2, mx3, mx4, mx5, effOp, endCall, callOp, appendOp, sliceLV, Ty.fieldTy, Ty.fieldOf, Nat.reduceLT, Nat.reduceEqDiff, Nat.reduceAdd, Nat.reduceMul, Nat.reduceSub, Nat.reduceLeDiff, Nat.reduceBEq, Nat.reduceBNe, reduceIte, reduceDIte, reduceCtorEq]; rfl) ?_ ?_ -- R21
              · try simp only [and_true, true_and]
                repeat' (first | apply And.intro | exact fun h => h | (intro h; rw [h]; rfl) | (intro h; exact ⟨h, fun g => by rw [h, g]; rfl⟩))
              refine k_seq ?_
              refine r_cond (by simp only [hT, tab328, Int.toNat_zero, Int.toNat_one, Nat.zero_mul, Nat.one_mul, Nat.add_zero, Nat.zero_add, List.replicate_succ, List.replicate_zero, List.flatten_cons, List.flatten_nil, List.cons_append, List.nil_append, mx0, mx1, mx2, mx3, mx4, mx5, effOp, endCall, callOp, appendOp, sliceLV, Ty.fieldTy, Ty.fieldOf, Nat.reduceLT, Nat.reduceEqDiff, Nat.reduceAdd, Nat.reduceMul, Nat.reduceSub, Nat.reduceLeDiff, Nat.reduceBEq, Nat.reduceBNe, reduceIte, reduceDIte, reduceCtorEq]; rfl) ?_ ?_
              · intro hb8
                simp [dz.1, dz.2.1, dz.2.2] at hb8
              · intro hb8
                try simp only [decide_eq_true_eq, decide_eq_false_iff_not, beq_eq_false_iff_ne, bne_eq_false_iff_eq, Bool.not_eq_false', Bool.and_eq_false_imp] at hb8
                refine r_skip ?_
                refine k_block ?_
                refine k_seq ?_
                refine r_region hG (by simp only [hT, tab328, Int.toNat_zero, Int.toNat_one, Nat.zero_mul, Nat.one_mul, Nat.add_zero, Nat.zero_add, List.replicate_succ, List.replicate_zero, List.flatten_cons, List.flatten_nil, List.cons_append, List.nil_append, cWorks, cLCut, cDraft, cMulT, cDivT, cGcdT, cRCheck, cLTold, cRMul, cRGcd, cRDiv, mx0, mx1, mx2, mx3, mx4, mx5, effOp, endCall, callOp, appendOp, sliceLV, Ty.fieldTy, Ty.fieldOf, Nat.reduceLT, Nat.reduceEqDiff, Nat.reduceAdd, Nat.reduceMul, Nat.reduceSub, Nat.reduceLeDiff, Nat.reduceBEq, Nat.reduceBNe, reduceIte, reduceDIte, reduceCtorEq]; rfl) ?_ ?_ -- R23
                · trivial
                show ∃ z, _
                simp only [ml0, ml1, Nat.reduceLT, Nat.reduceEqDiff, Nat.reduceAdd, Nat.reduceMul, Nat.reduceSub, Nat.reduceLeDiff, Nat.reduceBEq, Nat.reduceBNe, reduceIte, reduceDIte, reduceCtorEq]
                exact ⟨k + 1, wi (by omega) (by omega), by omega, by omega⟩
      · intro hb1
        refine r_exit ?_
        refine k_seq_exit ?_
        refine k_round_exit ?_
        refine k_block_exit ?_
        refine k_seq ?_
        refine r_seq ?_
        refine r_region hG (by simp only [hT, tab328, Int.toNat_zero, Int.toNat_one, Nat.zero_mul, Nat.one_mul, Nat.add_zero, Nat.zero_add, List.replicate_succ, List.replicate_zero, List.flatten_cons, List.flatten_nil, List.cons_append, List.nil_append, cWorks, cLCut, cDraft, cMulT, cDivT, cGcdT, cRCheck, cLTold, cRMul, cRGcd, cRDiv, mx0, mx1, mx2, mx3, mx4, mx5, effOp, endCall, callOp, appendOp, sliceLV, Ty.fieldTy, Ty.fieldOf, Nat.reduceLT, Nat.reduceEqDiff, Nat.reduceAdd, Nat.reduceMul, Nat.reduceSub, Nat.reduceLeDiff, Nat.reduceBEq, Nat.reduceBNe, reduceIte, reduceDIte, reduceCtorEq]; rfl) ?_ ?_ -- R24
        · trivial
        refine k_seq ?_
        refine r_ret ?_
        refine ⟨[], ?_⟩
        simp only [hT, tab328, mr0, mr1, mr2, Nat.reduceLT, Nat.reduceEqDiff, Nat.reduceAdd, Nat.reduceMul, Nat.reduceSub, Nat.reduceLeDiff, Nat.reduceBEq, Nat.reduceBNe, reduceIte, reduceDIte, reduceCtorEq]
        skip

end Go.Proofs.YtkgbdpmhdplddaaGreatDoor
end

section
/- The law WholeProducts: its row, its card. -/
namespace Go.Proofs.YtkgbdpmhdplddaaGreatDoor.wholeProducts
open Go Go.Cm Go.Proofs Go.ChangeShapes Go.WideShapes Go.ChangeAt Go.RowKit Go.Deep Go.Joins
set_option maxRecDepth 100000

theorem own : ownKnob Tryz.prog.godebug = none := by kernel_rfl
theorem rets : Tryz.f4.resultTypes = #[4] := by kernel_rfl
theorem bools : Tryz.prog.underlying 4 = some .bool := by kernel_rfl
def tys : List Ty := [.str, .str, (.st (.pair .bool (.pair (.slice (.int .u8)) (.int .u8)))), (.st (.pair .bool (.pair (.slice (.int .u8)) (.int .u8))))]
theorem reads : rdAll Tryz.prog tys Tryz.f4.params.toList = true := by kernel_rfl
theorem spec : TrueSpec Rows.wholeProductsSpec tys.length := ⟨rfl, fun _ ds h => match ds, h with | [a0, a1, a2, a3], _ => rfl⟩
abbrev vals : Array Value := #[.string { data := #[] }, .string { data := #[] }, .agg #[.bool false, .slice none 0 0, .int .u8 0], .agg #[.bool false, .slice none 0 0, .int .u8 0]]
theorem met (os : Os) : laidMet Tryz.prog Rows.wholeProductsRow.laid ((lawWorld os).forCall (fun _ _ => 0) ⟨#[], vals, []⟩).memory :=
  laidMet_of_run3 8 (by kernel_rfl) (by kernel_rfl) (by kernel_rfl)
theorem witness (os : Os) {H : Type} (enc : TypeId × Value → H) : ∃ places, DataW.whole enc Tryz.prog ((lawWorld os).forCall (fun _ _ => 0) ⟨#[], vals, []⟩).memory Tryz.f4.params.toList Rows.wholeProductsSpec.vars false vals.toList 8 = some ([.lit (.string []), .lit (.string []), .agg [.lit (.bool false), .nil, .lit (.int .u8 0)], .agg [.lit (.bool false), .nil, .lit (.int .u8 0)]], [], places) :=
  ⟨[], by kernel_rfl⟩
theorem tabs {W : World} (h : laidMetH Tryz.prog Rows.wholeProductsRow.laid W) : Tabs (lawBase W) := by
  have hL : laidMet Tryz.prog Rows.wholeProductsRow.laid W := h
  exact fun w hw => pow_tab (laidMet.tail (laidMet.tail hL)) w hw

theorem lifted (os : Os) (started : os.Started) (H : Type) (enc : TypeId × Value → H) (F : Stop.Interp) :
    ReturnsInHanded {} Tryz.checked os 4 .any ((OpenSpec.ofChange Rows.wholeProductsSpec).preRow enc Tryz.prog Tryz.f4 Rows.wholeProductsRow.domain false Rows.wholeProductsRow.laid) (((OpenSpec.ofChange Rows.wholeProductsSpec).at F).post enc Tryz.prog Tryz.f4 false true false false) := by
  obtain ⟨places, hx⟩ := witness os enc
  refine returnsInHanded_of_row (C := Tryz.checked) (s := OpenSpec.ofChange Rows.wholeProductsSpec) own started (by kernel_rfl) Tryz.func4
    (witness_row_at (enc := enc) (C := Tryz.checked) false (lawWorld os) vals rfl (by kernel_rfl) (by kernel_rfl) (by kernel_rfl)
      (OpenSpec.preRow_of_cond 8 hx (by kernel_rfl) (fun k hk => by cases hk) (by kernel_rfl) (met os))) ?_
  intro W base args ds gs before hval hW _ _ _ hL _ _
  exact row_contract (ts := tys) (con := cLWP) reads rets bools spec (fun x h => by obtain ⟨x0, x1, x2, x3, ⟨⟩⟩ := x; obtain ⟨h0, h1, h2, h3, -⟩ := h; exact ⟨_, rfl, ⟨dok_of h2, dok_of h3⟩⟩) (valid328 (tabs hL)) hval hW

theorem said : Rows.WholeProductsSaid :=
  OpenClaim.holds_of_cond 4 Tryz.f4 rfl rfl rfl rfl rfl rfl rfl ⟨rfl, rfl, rfl, rfl, rfl⟩ rfl rfl rfl rfl rfl (by kernel_rfl) Tryz.func4 (by kernel_rfl)
    (of_decide_eq_true (by kernel_rfl)) (by unfold Func.isWrapper; first | (rw [if_pos (by decide +kernel)]; kernel_rfl) | (rw [if_neg (by decide +kernel)]; exact ⟨rfl, rfl⟩))
    (fun os started H enc _ F => by rw [OpenClaim.pre_eq_preRow]; exact lifted os started H enc F)

theorem plain (f : FuncId) (fn : Func) (hf : Tryz.pinned.checked.prog.funcNamed "croupier/croupierlaw01.WholeProducts" = some f) (hfn : Tryz.pinned.checked.prog.funcs[f]? = some fn) :
    true = Tryz.pinned.checked.prog.looks [] ∧ ∀ (j : Nat) t, fn.params[j]? = some t → Tryz.pinned.checked.prog.wantsStandIn t = false := by
  obtain rfl : f = 4 := Option.some.inj ((show Tryz.prog.funcNamed "croupier/croupierlaw01.WholeProducts" = some 4 by kernel_rfl).symm.trans hf) |>.symm
  obtain rfl : fn = Tryz.f4 := (Option.some.inj (Tryz.func4.symm.trans hfn)).symm
  refine ⟨by kernel_rfl, fun j t ht => ?_⟩
  have hall : Tryz.f4.params.toList.all (fun t => !Tryz.prog.wantsStandIn t) = true := by kernel_rfl
  have := List.all_eq_true.1 hall t (by simpa using Array.mem_of_getElem? ht)
  exact (by simpa using this : Tryz.prog.wantsStandIn t = false)

theorem card : Rows.WholeProductsCardSaid :=
  Claim7.holds_tied_plain_at .later [] _ _ _ _ said (fun _ h => by cases h) (by kernel_rfl) (fun _ h => by cases h) wholeProducts_row_tie rfl ⟨rfl, rfl⟩ (by kernel_rfl) rfl plain (by kernel_rfl)

end Go.Proofs.YtkgbdpmhdplddaaGreatDoor.wholeProducts
end
