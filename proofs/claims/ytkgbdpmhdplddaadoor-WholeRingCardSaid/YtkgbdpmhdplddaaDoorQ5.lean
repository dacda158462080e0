/- Proved: the law WholeRing returns true for every three drafts. Conditions: those of its row alone (the package-level variables that the row lists start as the program lays them). -/
import Derived.Test.YtkgbdpmhdplddaaDoorQ3
import Derived.Test.YtkgbdpmhdplddaaDoorProg
import Derived.Test.YtkgbdpmhdplddaaDoorQ4
import Derived.WalkKit
set_option linter.all false
set_option linter.unusedSimpArgs false
set_option linter.unusedVariables false

section
/- The functions of the package exact, one after the other: each meets its contract. -/
set_option linter.unusedSimpArgs false
set_option linter.unusedVariables false
set_option maxRecDepth 100000
namespace Go.Proofs.YtkgbdpmhdplddaaDoor
open Go Go.Cm Go.Proofs

def tab25 (B : Base) : Tab := { types := [(27, (.int .i64)), (55, (.st (.pair .bool (.slice (.int .u32))))), (56, (.slice (.st (.pair .bool (.slice (.int .u32)))))), (85, (.slice .str))], elems := [(85, 9)], cons := [(26, cAdd), (27, cMul), (29, cSub), (30, cReads), (35, cGcdW), (48, cTold)], hint := [], N := 31, base := B }
theorem good25 {B : Base} (hB : Tabs B) : MGood Tryd.prog (tab25 B) := ⟨⟨types_cons ty27 (types_cons ty55 (types_cons ty56 (types_cons ty85 (types_nil)))), elems_cons (by kernel_rfl) (elems_nil), by simp only [tab25, ioB]; omega⟩, cons_ok (cals_cons (cal_ok Tryd.func26 (by kernel_rfl) rfl (valid26 hB)) (cals_cons (cal_ok Tryd.func27 (by kernel_rfl) rfl (valid27 hB)) (cals_cons (cal_ok Tryd.func29 (by kernel_rfl) rfl (valid29 hB)) (cals_cons (cal_ok Tryd.func30 (by kernel_rfl) rfl (valid30 hB)) (cals_cons (cal_ok Tryd.func35 (by kernel_rfl) rfl (valid35 hB)) (cals_cons (cal_ok Tryd.func48 (by kernel_rfl) rfl (valid48 hB)) (cals_nil))))))), by kernel_rfl⟩
def cApp26 : Con := fun l os => match l, os with
  | [.z .str a, .z .str b, .val (.func (.func g) fi ca)], [] => if g = 26 ∧ fi.size = 0 ∧ ca.size = 0 then some (Short a ∧ Short b, [.z .str (resS (chkAll [a, b]) (numI a + numI b)), .z (.int .i64) (resE (chkAll [a, b]) (numI a + numI b))], []) else none
  | _, _ => none

theorem valid25_26 {B : Base} (hB : Tabs B) : Valid B Tryd.prog 25 cApp26 := by
  refine valid_of_J (T := tab25 B) (good25 hB).tab Tryd.func25 rfl rfl rfl ?_
  intro args os C rs os' hc hC
  unfold cApp26 at hc
  split at hc
  case h_2 => cases hc
  rename_i a b g fi ca
  split at hc
  case isFalse => cases hc
  rename_i hg
  obtain ⟨rfl, hf1, hf2⟩ := hg
  obtain rfl := Array.eq_empty_of_size_eq_zero hf1
  obtain rfl := Array.eq_empty_of_size_eq_zero hf2
  cases hc
  refine ⟨by simp only [List.length_cons, List.length_nil, tab25]; omega, rfl, ?_⟩
  intro X hP hT hr
  have hG : MGood X.P X.T := by rw [hP, hT]; exact good25 hB
  simp only [Tryd.f25, argEnv, ioList, ioB]
  refine r_seq ?_
  refine r_region hG (by simp only [hT, tab25, cReads, cTold, cAdd, cMul, cSub, cGcdW, mx0, mx1, mx2, mx3, mx4, mx5, effOp, endCall, callOp, appendOp, sliceLV, Ty.fieldTy, Ty.fieldOf, Nat.reduceLT, Nat.reduceEqDiff, Nat.reduceAdd, Nat.reduceMul, Nat.reduceSub, Nat.reduceLeDiff, Nat.reduceBEq, Nat.reduceBNe, reduceIte, reduceDIte, reduceCtorEq]; rfl) ?_ ?_ -- R0
  · trivial
  refine k_seq ?_
  refine r_seq ?_
  refine r_region hG (by simp only [hT, tab25, cReads, cTold, cAdd, cMul, cSub, cGcdW, mx0, mx1, mx2, mx3, mx4, mx5, effOp, endCall, callOp, appendOp, sliceLV, Ty.fieldTy, Ty.fieldOf, Nat.reduceLT, Nat.reduceEqDiff, Nat.reduceAdd, Nat.reduceMul, Nat.reduceSub, Nat.reduceLeDiff, Nat.reduceBEq, Nat.reduceBNe, reduceIte, reduceDIte, reduceCtorEq]; rfl) ?_ ?_ -- R1
  · try simp only [and_true, true_and]
    exact shorts2 hC
  refine k_seq ?_
  refine r_seq ?_
  refine r_seq ?_
  refine r_region hG (by simp only [hT, tab25, cReads, cTold, cAdd, cMul, cSub, cGcdW, mx0, mx1, mx2, mx3, mx4, mx5, effOp, endCall, callOp, appendOp, sliceLV, Ty.fieldTy, Ty.fieldOf, Nat.reduceLT, Nat.reduceEqDiff, Nat.reduceAdd, Nat.reduceMul, Nat.reduceSub, Nat.reduceLeDiff, Nat.reduceBEq, Nat.reduceBNe, reduceIte, reduceDIte, reduceCtorEq]; rfl) ?_ ?_ -- R2
  · trivial
  refine k_seq ?_
  refine r_cond (by simp only [hT, tab25, mx0, mx1, mx2, mx3, mx4, mx5, effOp, endCall, callOp, appendOp, sliceLV, Ty.fieldTy, Ty.fieldOf, Nat.reduceLT, Nat.reduceEqDiff, Nat.reduceAdd, Nat.reduceMul, Nat.reduceSub, Nat.reduceLeDiff, Nat.reduceBEq, Nat.reduceBNe, reduceIte, reduceDIte, reduceCtorEq]; rfl) ?_ ?_
  · intro hb0
    try simp only [decide_eq_true_eq, decide_eq_false_iff_not, beq_iff_eq, bne_iff_ne, Bool.not_eq_true', Bool.and_eq_true] at hb0
    refine r_seq ?_
    refine r_region hG (by simp only [hT, tab25, cReads, cTold, cAdd, cMul, cSub, cGcdW, mx0, mx1, mx2, mx3, mx4, mx5, effOp, endCall, callOp, appendOp, sliceLV, Ty.fieldTy, Ty.fieldOf, Nat.reduceLT, Nat.reduceEqDiff, Nat.reduceAdd, Nat.reduceMul, Nat.reduceSub, Nat.reduceLeDiff, Nat.reduceBEq, Nat.reduceBNe, reduceIte, reduceDIte, reduceCtorEq]; rfl) ?_ ?_ -- R3
    · trivial
    refine k_seq ?_
    refine r_ret ?_
    refine k_seq_ret ?_
    refine ⟨[], ?_⟩
    simp only [hT, tab25, mr0, mr1, mr2, Nat.reduceLT, Nat.reduceEqDiff, Nat.reduceAdd, Nat.reduceMul, Nat.reduceSub, Nat.reduceLeDiff, Nat.reduceBEq, Nat.reduceBNe, reduceIte, reduceDIte, reduceCtorEq]
    exact app_bad hb0
  · intro hb0
    try simp only [decide_eq_true_eq, decide_eq_false_iff_not, beq_eq_false_iff_ne, bne_eq_false_iff_eq, Bool.not_eq_false', Bool.and_eq_false_imp] at hb0
    refine r_skip ?_
    refine k_seq ?_
    refine r_seq ?_
    refine r_draw hG (by simp only [hT, mt0, tab25, cReads, cTold, cAdd, cMul, cSub, cGcdW, mx0, mx1, mx2, mx3, mx4, mx5, effOp, endCall, callOp, appendOp, sliceLV, Ty.fieldTy, Ty.fieldOf, Nat.reduceLT, Nat.reduceEqDiff, Nat.reduceAdd, Nat.reduceMul, Nat.reduceSub, Nat.reduceLeDiff, Nat.reduceBEq, Nat.reduceBNe, reduceIte, reduceDIte, reduceCtorEq]; rfl) (by kernel_rfl) (by rfl) (by rfl) ?_ ?_ -- R4
    · try simp only [and_true, true_and]
      obtain ⟨r1, r2, r3, r4, r5, r6⟩ := read2 hb0
      rw [r3, r4, dec_enc, dec_enc]
      obtain ⟨s1, s2, s3, s4⟩ := sum_len r5 r6
      exact ⟨⟨by omega, r1⟩, ⟨by omega, r2⟩, ⟨enc_ok _, enc_ok _, by unfold CAP; omega⟩, enc_ok _, by unfold CAP; omega⟩
    refine k_seq ?_
    refine r_ret ?_
    refine ⟨[], ?_⟩
    simp only [hT, tab25, mr0, mr1, mr2, Nat.reduceLT, Nat.reduceEqDiff, Nat.reduceAdd, Nat.reduceMul, Nat.reduceSub, Nat.reduceLeDiff, Nat.reduceBEq, Nat.reduceBNe, reduceIte, reduceDIte, reduceCtorEq]
    obtain ⟨r1, r2, r3, r4, r5, r6⟩ := read2 hb0
    rw [r3, r4, dec_enc, dec_enc, dec_enc]
    exact app_ok hb0

def cApp27 : Con := fun l os => match l, os with
  | [.z .str a, .z .str b, .val (.func (.func g) fi ca)], [] => if g = 27 ∧ fi.size = 0 ∧ ca.size = 0 then some (Short a ∧ Short b, [.z .str (resS (chkAll [a, b]) (numI a * numI b)), .z (.int .i64) (resE (chkAll [a, b]) (numI a * numI b))], []) else none
  | _, _ => none

theorem valid25_27 {B : Base} (hB : Tabs B) : Valid B Tryd.prog 25 cApp27 := by
  refine valid_of_J (T := tab25 B) (good25 hB).tab Tryd.func25 rfl rfl rfl ?_
  intro args os C rs os' hc hC
  unfold cApp27 at hc
  split at hc
  case h_2 => cases hc
  rename_i a b g fi ca
  split at hc
  case isFalse => cases hc
  rename_i hg
  obtain ⟨rfl, hf1, hf2⟩ := hg
  obtain rfl := Array.eq_empty_of_size_eq_zero hf1
  obtain rfl := Array.eq_empty_of_size_eq_zero hf2
  cases hc
  refine ⟨by simp only [List.length_cons, List.length_nil, tab25]; omega, rfl, ?_⟩
  intro X hP hT hr
  have hG : MGood X.P X.T := by rw [hP, hT]; exact good25 hB
  simp only [Tryd.f25, argEnv, ioList, ioB]
  refine r_seq ?_
  refine r_region hG (by simp only [hT, tab25, cReads, cTold, cAdd, cMul, cSub, cGcdW, mx0, mx1, mx2, mx3, mx4, mx5, effOp, endCall, callOp, appendOp, sliceLV, Ty.fieldTy, Ty.fieldOf, Nat.reduceLT, Nat.reduceEqDiff, Nat.reduceAdd, Nat.reduceMul, Nat.reduceSub, Nat.reduceLeDiff, Nat.reduceBEq, Nat.reduceBNe, reduceIte, reduceDIte, reduceCtorEq]; rfl) ?_ ?_ -- R0
  · trivial
  refine k_seq ?_
  refine r_seq ?_
  refine r_region hG (by simp only [hT, tab25, cReads, cTold, cAdd, cMul, cSub, cGcdW, mx0, mx1, mx2, mx3, mx4, mx5, effOp, endCall, callOp, appendOp, sliceLV, Ty.fieldTy, Ty.fieldOf, Nat.reduceLT, Nat.reduceEqDiff, Nat.reduceAdd, Nat.reduceMul, Nat.reduceSub, Nat.reduceLeDiff, Nat.reduceBEq, Nat.reduceBNe, reduceIte, reduceDIte, reduceCtorEq]; rfl) ?_ ?_ -- R1
  · try simp only [and_true, true_and]
    exact shorts2 hC
  refine k_seq ?_
  refine r_seq ?_
  refine r_seq ?_
  refine r_region hG (by simp only [hT, tab25, cReads, cTold, cAdd, cMul, cSub, cGcdW, mx0, mx1, mx2, mx3, mx4, mx5, effOp, endCall, callOp, appendOp, sliceLV, Ty.fieldTy, Ty.fieldOf, Nat.reduceLT, Nat.reduceEqDiff, Nat.reduceAdd, Nat.reduceMul, Nat.reduceSub, Nat.reduceLeDiff, Nat.reduceBEq, Nat.reduceBNe, reduceIte, reduceDIte, reduceCtorEq]; rfl) ?_ ?_ -- R2
  · trivial
  refine k_seq ?_
  refine r_cond (by simp only [hT, tab25, mx0, mx1, mx2, mx3, mx4, mx5, effOp, endCall, callOp, appendOp, sliceLV, Ty.fieldTy, Ty.fieldOf, Nat.reduceLT, Nat.reduceEqDiff, Nat.reduceAdd, Nat.reduceMul, Nat.reduceSub, Nat.reduceLeDiff, Nat.reduceBEq, Nat.reduceBNe, reduceIte, reduceDIte, reduceCtorEq]; rfl) ?_ ?_
  · intro hb0
    try simp only [decide_eq_true_eq, decide_eq_false_iff_not, beq_iff_eq, bne_iff_ne, Bool.not_eq_true', Bool.and_eq_true] at hb0
    refine r_seq ?_
    refine r_region hG (by simp only [hT, tab25, cReads, cTold, cAdd, cMul, cSub, cGcdW, mx0, mx1, mx2, mx3, mx4, mx5, effOp, endCall, callOp, appendOp, sliceLV, Ty.fieldTy, Ty.fieldOf, Nat.reduceLT, Nat.reduceEqDiff, Nat.reduceAdd, Nat.reduceMul, Nat.reduceSub, Nat.reduceLeDiff, Nat.reduceBEq, Nat.reduceBNe, reduceIte, reduceDIte, reduceCtorEq]; rfl) ?_ ?_ -- R3
    · trivial
    refine k_seq ?_
    refine r_ret ?_
    refine k_seq_ret ?_
    refine ⟨[], ?_⟩
    simp only [hT, tab25, mr0, mr1, mr2, Nat.reduceLT, Nat.reduceEqDiff, Nat.reduceAdd, Nat.reduceMul, Nat.reduceSub, Nat.reduceLeDiff, Nat.reduceBEq, Nat.reduceBNe, reduceIte, reduceDIte, reduceCtorEq]
    exact app_bad hb0
  · intro hb0
    try simp only [decide_eq_true_eq, decide_eq_false_iff_not, beq_eq_false_iff_ne, bne_eq_false_iff_eq, Bool.not_eq_false', Bool.and_eq_false_imp] at hb0
    refine r_skip ?_
    refine k_seq ?_
    refine r_seq ?_
    refine r_draw hG (by simp only [hT, mt0, tab25, cReads, cTold, cAdd, cMul, cSub, cGcdW, mx0, mx1, mx2, mx3, mx4, mx5, effOp, endCall, callOp, appendOp, sliceLV, Ty.fieldTy, Ty.fieldOf, Nat.reduceLT, Nat.reduceEqDiff, Nat.reduceAdd, Nat.reduceMul, Nat.reduceSub, Nat.reduceLeDiff, Nat.reduceBEq, Nat.reduceBNe, reduceIte, reduceDIte, reduceCtorEq]; rfl) (by kernel_rfl) (by rfl) (by rfl) ?_ ?_ -- R4
    · try simp only [and_true, true_and]
      obtain ⟨r1, r2, r3, r4, r5, r6⟩ := read2 hb0
      rw [r3, r4, dec_enc, dec_enc]
      obtain ⟨s1, s2, s3, s4⟩ := sum_len r5 r6
      exact ⟨⟨by omega, r1⟩, ⟨by omega, r2⟩, ⟨enc_ok _, enc_ok _, by unfold CAP; omega⟩, enc_ok _, by unfold CAP; omega⟩
    refine k_seq ?_
    refine r_ret ?_
    refine ⟨[], ?_⟩
    simp only [hT, tab25, mr0, mr1, mr2, Nat.reduceLT, Nat.reduceEqDiff, Nat.reduceAdd, Nat.reduceMul, Nat.reduceSub, Nat.reduceLeDiff, Nat.reduceBEq, Nat.reduceBNe, reduceIte, reduceDIte, reduceCtorEq]
    obtain ⟨r1, r2, r3, r4, r5, r6⟩ := read2 hb0
    rw [r3, r4, dec_enc, dec_enc, dec_enc]
    exact app_ok hb0

def cApp29 : Con := fun l os => match l, os with
  | [.z .str a, .z .str b, .val (.func (.func g) fi ca)], [] => if g = 29 ∧ fi.size = 0 ∧ ca.size = 0 then some (Short a ∧ Short b, [.z .str (resS (chkAll [a, b]) (numI a - numI b)), .z (.int .i64) (resE (chkAll [a, b]) (numI a - numI b))], []) else none
  | _, _ => none

theorem valid25_29 {B : Base} (hB : Tabs B) : Valid B Tryd.prog 25 cApp29 := by
  refine valid_of_J (T := tab25 B) (good25 hB).tab Tryd.func25 rfl rfl rfl ?_
  intro args os C rs os' hc hC
  unfold cApp29 at hc
  split at hc
  case h_2 => cases hc
  rename_i a b g fi ca
  split at hc
  case isFalse => cases hc
  rename_i hg
  obtain ⟨rfl, hf1, hf2⟩ := hg
  obtain rfl := Array.eq_empty_of_size_eq_zero hf1
  obtain rfl := Array.eq_empty_of_size_eq_zero hf2
  cases hc
  refine ⟨by simp only [List.length_cons, List.length_nil, tab25]; omega, rfl, ?_⟩
  intro X hP hT hr
  have hG : MGood X.P X.T := by rw [hP, hT]; exact good25 hB
  simp only [Tryd.f25, argEnv, ioList, ioB]
  refine r_seq ?_
  refine r_region hG (by simp only [hT, tab25, cReads, cTold, cAdd, cMul, cSub, cGcdW, mx0, mx1, mx2, mx3, mx4, mx5, effOp, endCall, callOp, appendOp, sliceLV, Ty.fieldTy, Ty.fieldOf, Nat.reduceLT, Nat.reduceEqDiff, Nat.reduceAdd, Nat.reduceMul, Nat.reduceSub, Nat.reduceLeDiff, Nat.reduceBEq, Nat.reduceBNe, reduceIte, reduceDIte, reduceCtorEq]; rfl) ?_ ?_ -- R0
  · trivial
  refine k_seq ?_
  refine r_seq ?_
  refine r_region hG (by simp only [hT, tab25, cReads, cTold, cAdd, cMul, cSub, cGcdW, mx0, mx1, mx2, mx3, mx4, mx5, effOp, endCall, callOp, appendOp, sliceLV, Ty.fieldTy, Ty.fieldOf, Nat.reduceLT, Nat.reduceEqDiff, Nat.reduceAdd, Nat.reduceMul, Nat.reduceSub, Nat.reduceLeDiff, Nat.reduceBEq, Nat.reduceBNe, reduceIte, reduceDIte, reduceCtorEq]; rfl) ?_ ?_ -- R1
  · try simp only [and_true, true_and]
    exact shorts2 hC
  refine k_seq ?_
  refine r_seq ?_
  refine r_seq ?_
  refine r_region hG (by simp only [hT, tab25, cReads, cTold, cAdd, cMul, cSub, cGcdW, mx0, mx1, mx2, mx3, mx4, mx5, effOp, endCall, callOp, appendOp, sliceLV, Ty.fieldTy, Ty.fieldOf, Nat.reduceLT, Nat.reduceEqDiff, Nat.reduceAdd, Nat.reduceMul, Nat.reduceSub, Nat.reduceLeDiff, Nat.reduceBEq, Nat.reduceBNe, reduceIte, reduceDIte, reduceCtorEq]; rfl) ?_ ?_ -- R2
  · trivial
  refine k_seq ?_
  refine r_cond (by simp only [hT, tab25, mx0, mx1, mx2, mx3, mx4, mx5, effOp, endCall, callOp, appendOp, sliceLV, Ty.fieldTy, Ty.fieldOf, Nat.reduceLT, Nat.reduceEqDiff, Nat.reduceAdd, Nat.reduceMul, Nat.reduceSub, Nat.reduceLeDiff, Nat.reduceBEq, Nat.reduceBNe, reduceIte, reduceDIte, reduceCtorEq]; rfl) ?_ ?_
  · intro hb0
    try simp only [decide_eq_true_eq, decide_eq_false_iff_not, beq_iff_eq, bne_iff_ne, Bool.not_eq_true', Bool.and_eq_true] at hb0
    refine r_seq ?_
    refine r_region hG (by simp only [hT, tab25, cReads, cTold, cAdd, cMul, cSub, cGcdW, mx0, mx1, mx2, mx3, mx4, mx5, effOp, endCall, callOp, appendOp, sliceLV, Ty.fieldTy, Ty.fieldOf, Nat.reduceLT, Nat.reduceEqDiff, Nat.reduceAdd, Nat.reduceMul, Nat.reduceSub, Nat.reduceLeDiff, Nat.reduceBEq, Nat.reduceBNe, reduceIte, reduceDIte, reduceCtorEq]; rfl) ?_ ?_ -- R3
    · trivial
    refine k_seq ?_
    refine r_ret ?_
    refine k_seq_ret ?_
    refine ⟨[], ?_⟩
    simp only [hT, tab25, mr0, mr1, mr2, Nat.reduceLT, Nat.reduceEqDiff, Nat.reduceAdd, Nat.reduceMul, Nat.reduceSub, Nat.reduceLeDiff, Nat.reduceBEq, Nat.reduceBNe, reduceIte, reduceDIte, reduceCtorEq]
    exact app_bad hb0
  · intro hb0
    try simp only [decide_eq_true_eq, decide_eq_false_iff_not, beq_eq_false_iff_ne, bne_eq_false_iff_eq, Bool.not_eq_false', Bool.and_eq_false_imp] at hb0
    refine r_skip ?_
    refine k_seq ?_
    refine r_seq ?_
    refine r_draw hG (by simp only [hT, mt0, tab25, cReads, cTold, cAdd, cMul, cSub, cGcdW, mx0, mx1, mx2, mx3, mx4, mx5, effOp, endCall, callOp, appendOp, sliceLV, Ty.fieldTy, Ty.fieldOf, Nat.reduceLT, Nat.reduceEqDiff, Nat.reduceAdd, Nat.reduceMul, Nat.reduceSub, Nat.reduceLeDiff, Nat.reduceBEq, Nat.reduceBNe, reduceIte, reduceDIte, reduceCtorEq]; rfl) (by kernel_rfl) (by rfl) (by rfl) ?_ ?_ -- R4
    · try simp only [and_true, true_and]
      obtain ⟨r1, r2, r3, r4, r5, r6⟩ := read2 hb0
      rw [r3, r4, dec_enc, dec_enc]
      obtain ⟨s1, s2, s3, s4⟩ := sum_len r5 r6
      exact ⟨⟨by omega, r1⟩, ⟨by omega, r2⟩, ⟨enc_ok _, enc_ok _, by unfold CAP; omega⟩, enc_ok _, by unfold CAP; omega⟩
    refine k_seq ?_
    refine r_ret ?_
    refine ⟨[], ?_⟩
    simp only [hT, tab25, mr0, mr1, mr2, Nat.reduceLT, Nat.reduceEqDiff, Nat.reduceAdd, Nat.reduceMul, Nat.reduceSub, Nat.reduceLeDiff, Nat.reduceBEq, Nat.reduceBNe, reduceIte, reduceDIte, reduceCtorEq]
    obtain ⟨r1, r2, r3, r4, r5, r6⟩ := read2 hb0
    rw [r3, r4, dec_enc, dec_enc, dec_enc]
    exact app_ok hb0

def cApp35 : Con := fun l os => match l, os with
  | [.z .str a, .z .str b, .val (.func (.func g) fi ca)], [] => if g = 35 ∧ fi.size = 0 ∧ ca.size = 0 then some (Short a ∧ Short b, [.z .str (resS (chkAll [a, b]) (gcdI (numI a) (numI b))), .z (.int .i64) (resE (chkAll [a, b]) (gcdI (numI a) (numI b)))], []) else none
  | _, _ => none

theorem valid25_35 {B : Base} (hB : Tabs B) : Valid B Tryd.prog 25 cApp35 := by
  refine valid_of_J (T := tab25 B) (good25 hB).tab Tryd.func25 rfl rfl rfl ?_
  intro args os C rs os' hc hC
  unfold cApp35 at hc
  split at hc
  case h_2 => cases hc
  rename_i a b g fi ca
  split at hc
  case isFalse => cases hc
  rename_i hg
  obtain ⟨rfl, hf1, hf2⟩ := hg
  obtain rfl := Array.eq_empty_of_size_eq_zero hf1
  obtain rfl := Array.eq_empty_of_size_eq_zero hf2
  cases hc
  refine ⟨by simp only [List.length_cons, List.length_nil, tab25]; omega, rfl, ?_⟩
  intro X hP hT hr
  have hG : MGood X.P X.T := by rw [hP, hT]; exact good25 hB
  simp only [Tryd.f25, argEnv, ioList, ioB]
  refine r_seq ?_
  refine r_region hG (by simp only [hT, tab25, cReads, cTold, cAdd, cMul, cSub, cGcdW, mx0, mx1, mx2, mx3, mx4, mx5, effOp, endCall, callOp, appendOp, sliceLV, Ty.fieldTy, Ty.fieldOf, Nat.reduceLT, Nat.reduceEqDiff, Nat.reduceAdd, Nat.reduceMul, Nat.reduceSub, Nat.reduceLeDiff, Nat.reduceBEq, Nat.reduceBNe, reduceIte, reduceDIte, reduceCtorEq]; rfl) ?_ ?_ -- R0
  · trivial
  refine k_seq ?_
  refine r_seq ?_
  refine r_region hG (by simp only [hT, tab25, cReads, cTold, cAdd, cMul, cSub, cGcdW, mx0, mx1, mx2, mx3, mx4, mx5, effOp, endCall, callOp, appendOp, sliceLV, Ty.fieldTy, Ty.fieldOf, Nat.reduceLT, Nat.reduceEqDiff, Nat.reduceAdd, Nat.reduceMul, Nat.reduceSub, Nat.reduceLeDiff, Nat.reduceBEq, Nat.reduceBNe, reduceIte, reduceDIte, reduceCtorEq]; rfl) ?_ ?_ -- R1
  · try simp only [and_true, true_and]
    exact shorts2 hC
  refine k_seq ?_
  refine r_seq ?_
  refine r_seq ?_
  refine r_region hG (by simp only [hT, tab25, cReads, cTold, cAdd, cMul, cSub, cGcdW, mx0, mx1, mx2, mx3, mx4, mx5, effOp, endCall, callOp, appendOp, sliceLV, Ty.fieldTy, Ty.fieldOf, Nat.reduceLT, Nat.reduceEqDiff, Nat.reduceAdd, Nat.reduceMul, Nat.reduceSub, Nat.reduceLeDiff, Nat.reduceBEq, Nat.reduceBNe, reduceIte, reduceDIte, reduceCtorEq]; rfl) ?_ ?_ -- R2
  · trivial
  refine k_seq ?_
  refine r_cond (by simp only [hT, tab25, mx0, mx1, mx2, mx3, mx4, mx5, effOp, endCall, callOp, appendOp, sliceLV, Ty.fieldTy, Ty.fieldOf, Nat.reduceLT, Nat.reduceEqDiff, Nat.reduceAdd, Nat.reduceMul, Nat.reduceSub, Nat.reduceLeDiff, Nat.reduceBEq, Nat.reduceBNe, reduceIte, reduceDIte, reduceCtorEq]; rfl) ?_ ?_
  · intro hb0
    try simp only [decide_eq_true_eq, decide_eq_false_iff_not, beq_iff_eq, bne_iff_ne, Bool.not_eq_true', Bool.and_eq_true] at hb0
    refine r_seq ?_
    refine r_region hG (by simp only [hT, tab25, cReads, cTold, cAdd, cMul, cSub, cGcdW, mx0, mx1, mx2, mx3, mx4, mx5, effOp, endCall, callOp, appendOp, sliceLV, Ty.fieldTy, Ty.fieldOf, Nat.reduceLT, Nat.reduceEqDiff, Nat.reduceAdd, Nat.reduceMul, Nat.reduceSub, Nat.reduceLeDiff, Nat.reduceBEq, Nat.reduceBNe, reduceIte, reduceDIte, reduceCtorEq]; rfl) ?_ ?_ -- R3
    · trivial
    refine k_seq ?_
    refine r_ret ?_
    refine k_seq_ret ?_
    refine ⟨[], ?_⟩
    simp only [hT, tab25, mr0, mr1, mr2, Nat.reduceLT, Nat.reduceEqDiff, Nat.reduceAdd, Nat.reduceMul, Nat.reduceSub, Nat.reduceLeDiff, Nat.reduceBEq, Nat.reduceBNe, reduceIte, reduceDIte, reduceCtorEq]
    exact app_bad hb0
  · intro hb0
    try simp only [decide_eq_true_eq, decide_eq_false_iff_not, beq_eq_false_iff_ne, bne_eq_false_iff_eq, Bool.not_eq_false', Bool.and_eq_false_imp] at hb0
    refine r_skip ?_
    refine k_seq ?_
    refine r_seq ?_
    refine r_draw hG (by simp only [hT, mt0, tab25, cReads, cTold, cAdd, cMul, cSub, cGcdW, mx0, mx1, mx2, mx3, mx4, mx5, effOp, endCall, callOp, appendOp, sliceLV, Ty.fieldTy, Ty.fieldOf, Nat.reduceLT, Nat.reduceEqDiff, Nat.reduceAdd, Nat.reduceMul, Nat.reduceSub, Nat.reduceLeDiff, Nat.reduceBEq, Nat.reduceBNe, reduceIte, reduceDIte, reduceCtorEq]; rfl) (by kernel_rfl) (by rfl) (by rfl) ?_ ?_ -- R4
    · try simp only [and_true, true_and]
      obtain ⟨r1, r2, r3, r4, r5, r6⟩ := read2 hb0
      rw [r3, r4, dec_enc, dec_enc]
      obtain ⟨s1, s2, s3, s4⟩ := sum_len r5 r6
      exact ⟨⟨by omega, r1⟩, ⟨by omega, r2⟩, ⟨enc_ok _, enc_ok _, by unfold CAP; omega⟩, enc_ok _, by unfold CAP; omega⟩
    refine k_seq ?_
    refine r_ret ?_
    refine ⟨[], ?_⟩
    simp only [hT, tab25, mr0, mr1, mr2, Nat.reduceLT, Nat.reduceEqDiff, Nat.reduceAdd, Nat.reduceMul, Nat.reduceSub, Nat.reduceLeDiff, Nat.reduceBEq, Nat.reduceBNe, reduceIte, reduceDIte, reduceCtorEq]
    obtain ⟨r1, r2, r3, r4, r5, r6⟩ := read2 hb0
    rw [r3, r4, dec_enc, dec_enc, dec_enc]
    exact app_ok hb0

def tab10 (B : Base) : Tab := { types := [(9, .str)], elems := [], cons := [(25, cApp26)], hint := [], N := 11, base := B }
theorem good10 {B : Base} (hB : Tabs B) : MGood Tryd.prog (tab10 B) := ⟨⟨types_cons ty9 (types_nil), elems_nil, by simp only [tab10, ioB]; omega⟩, cons_ok (cals_cons (cal_ok Tryd.func25 (by kernel_rfl) rfl (valid25_26 hB)) (cals_nil)), by kernel_rfl⟩
def cAddT : Con := fun l os => match l, os with
  | [.z .str a, .z .str b], [] => some (Short a ∧ Short b, [.z .str (resS (chkAll [a, b]) (numI a + numI b)), .z (.int .i64) (resE (chkAll [a, b]) (numI a + numI b))], [])
  | _, _ => none

theorem valid10 {B : Base} (hB : Tabs B) : Valid B Tryd.prog 10 cAddT := by
  refine valid_of_J (T := tab10 B) (good10 hB).tab Tryd.func10 rfl rfl rfl ?_
  intro args os C rs os' hc hC
  unfold cAddT at hc
  split at hc
  case h_2 => cases hc
  rename_i a b
  cases hc
  refine ⟨by simp only [List.length_cons, List.length_nil, tab10]; omega, rfl, ?_⟩
  intro X hP hT hr
  have hG : MGood X.P X.T := by rw [hP, hT]; exact good10 hB
  simp only [Tryd.f10, argEnv, ioList, ioB]
  refine r_seq ?_
  refine r_region hG (by simp only [hT, tab10, cApp26, mx0, mx1, mx2, mx3, mx4, mx5, effOp, endCall, callOp, appendOp, sliceLV, Ty.fieldTy, Ty.fieldOf, Nat.reduceLT, Nat.reduceEqDiff, Nat.reduceAdd, Nat.reduceMul, Nat.reduceSub, Nat.reduceLeDiff, Nat.reduceBEq, Nat.reduceBNe, reduceIte, reduceDIte, reduceCtorEq]; rfl) ?_ ?_ -- R0
  · trivial
  refine k_seq ?_
  refine r_seq ?_
  refine r_region hG (by simp only [hT, tab10, cApp26, mx0, mx1, mx2, mx3, mx4, mx5, effOp, endCall, callOp, appendOp, sliceLV, Ty.fieldTy, Ty.fieldOf, Nat.reduceLT, Nat.reduceEqDiff, Nat.reduceAdd, Nat.reduceMul, Nat.reduceSub, Nat.reduceLeDiff, Nat.reduceBEq, Nat.reduceBNe, reduceIte, reduceDIte, reduceCtorEq]; rfl) ?_ ?_ -- R1
  · try simp only [and_true, true_and]
    exact hC
  refine k_seq ?_
  refine r_ret ?_
  refine ⟨[], ?_⟩
  simp only [hT, tab10, mr0, mr1, mr2, Nat.reduceLT, Nat.reduceEqDiff, Nat.reduceAdd, Nat.reduceMul, Nat.reduceSub, Nat.reduceLeDiff, Nat.reduceBEq, Nat.reduceBNe, reduceIte, reduceDIte, reduceCtorEq]
  skip

def tab11 (B : Base) : Tab := { types := [(9, .str)], elems := [], cons := [(25, cApp27)], hint := [], N := 11, base := B }
theorem good11 {B : Base} (hB : Tabs B) : MGood Tryd.prog (tab11 B) := ⟨⟨types_cons ty9 (types_nil), elems_nil, by simp only [tab11, ioB]; omega⟩, cons_ok (cals_cons (cal_ok Tryd.func25 (by kernel_rfl) rfl (valid25_27 hB)) (cals_nil)), by kernel_rfl⟩
def cMulT : Con := fun l os => match l, os with
  | [.z .str a, .z .str b], [] => some (Short a ∧ Short b, [.z .str (resS (chkAll [a, b]) (numI a * numI b)), .z (.int .i64) (resE (chkAll [a, b]) (numI a * numI b))], [])
  | _, _ => none

theorem valid11 {B : Base} (hB : Tabs B) : Valid B Tryd.prog 11 cMulT := by
  refine valid_of_J (T := tab11 B) (good11 hB).tab Tryd.func11 rfl rfl rfl ?_
  intro args os C rs os' hc hC
  unfold cMulT at hc
  split at hc
  case h_2 => cases hc
  rename_i a b
  cases hc
  refine ⟨by simp only [List.length_cons, List.length_nil, tab11]; omega, rfl, ?_⟩
  intro X hP hT hr
  have hG : MGood X.P X.T := by rw [hP, hT]; exact good11 hB
  simp only [Tryd.f11, argEnv, ioList, ioB]
  refine r_seq ?_
  refine r_region hG (by simp only [hT, tab11, cApp27, mx0, mx1, mx2, mx3, mx4, mx5, effOp, endCall, callOp, appendOp, sliceLV, Ty.fieldTy, Ty.fieldOf, Nat.reduceLT, Nat.reduceEqDiff, Nat.reduceAdd, Nat.reduceMul, Nat.reduceSub, Nat.reduceLeDiff, Nat.reduceBEq, Nat.reduceBNe, reduceIte, reduceDIte, reduceCtorEq]; rfl) ?_ ?_ -- R0
  · trivial
  refine k_seq ?_
  refine r_seq ?_
  refine r_region hG (by simp only [hT, tab11, cApp27, mx0, mx1, mx2, mx3, mx4, mx5, effOp, endCall, callOp, appendOp, sliceLV, Ty.fieldTy, Ty.fieldOf, Nat.reduceLT, Nat.reduceEqDiff, Nat.reduceAdd, Nat.reduceMul, Nat.reduceSub, Nat.reduceLeDiff, Nat.reduceBEq, Nat.reduceBNe, reduceIte, reduceDIte, reduceCtorEq]; rfl) ?_ ?_ -- R1
  · try simp only [and_true, true_and]
    exact hC
  refine k_seq ?_
  refine r_ret ?_
  refine ⟨[], ?_⟩
  simp only [hT, tab11, mr0, mr1, mr2, Nat.reduceLT, Nat.reduceEqDiff, Nat.reduceAdd, Nat.reduceMul, Nat.reduceSub, Nat.reduceLeDiff, Nat.reduceBEq, Nat.reduceBNe, reduceIte, reduceDIte, reduceCtorEq]
  skip

def tab13 (B : Base) : Tab := { types := [(9, .str)], elems := [], cons := [(25, cApp29)], hint := [], N := 11, base := B }
theorem good13 {B : Base} (hB : Tabs B) : MGood Tryd.prog (tab13 B) := ⟨⟨types_cons ty9 (types_nil), elems_nil, by simp only [tab13, ioB]; omega⟩, cons_ok (cals_cons (cal_ok Tryd.func25 (by kernel_rfl) rfl (valid25_29 hB)) (cals_nil)), by kernel_rfl⟩
def cSubT : Con := fun l os => match l, os with
  | [.z .str a, .z .str b], [] => some (Short a ∧ Short b, [.z .str (resS (chkAll [a, b]) (numI a - numI b)), .z (.int .i64) (resE (chkAll [a, b]) (numI a - numI b))], [])
  | _, _ => none

theorem valid13 {B : Base} (hB : Tabs B) : Valid B Tryd.prog 13 cSubT := by
  refine valid_of_J (T := tab13 B) (good13 hB).tab Tryd.func13 rfl rfl rfl ?_
  intro args os C rs os' hc hC
  unfold cSubT at hc
  split at hc
  case h_2 => cases hc
  rename_i a b
  cases hc
  refine ⟨by simp only [List.length_cons, List.length_nil, tab13]; omega, rfl, ?_⟩
  intro X hP hT hr
  have hG : MGood X.P X.T := by rw [hP, hT]; exact good13 hB
  simp only [Tryd.f13, argEnv, ioList, ioB]
  refine r_seq ?_
  refine r_region hG (by simp only [hT, tab13, cApp29, mx0, mx1, mx2, mx3, mx4, mx5, effOp, endCall, callOp, appendOp, sliceLV, Ty.fieldTy, Ty.fieldOf, Nat.reduceLT, Nat.reduceEqDiff, Nat.reduceAdd, Nat.reduceMul, Nat.reduceSub, Nat.reduceLeDiff, Nat.reduceBEq, Nat.reduceBNe, reduceIte, reduceDIte, reduceCtorEq]; rfl) ?_ ?_ -- R0
  · trivial
  refine k_seq ?_
  refine r_seq ?_
  refine r_region hG (by simp only [hT, tab13, cApp29, mx0, mx1, mx2, mx3, mx4, mx5, effOp, endCall, callOp, appendOp, sliceLV, Ty.fieldTy, Ty.fieldOf, Nat.reduceLT, Nat.reduceEqDiff, Nat.reduceAdd, Nat.reduceMul, Nat.reduceSub, Nat.reduceLeDiff, Nat.reduceBEq, Nat.reduceBNe, reduceIte, reduceDIte, reduceCtorEq]; rfl) ?_ ?_ -- R1
  · try simp only [and_true, true_and]
    exact hC
  refine k_seq ?_
  refine r_ret ?_
  refine ⟨[], ?_⟩
  simp only [hT, tab13, mr0, mr1, mr2, Nat.reduceLT, Nat.reduceEqDiff, Nat.reduceAdd, Nat.reduceMul, Nat.reduceSub, Nat.reduceLeDiff, Nat.reduceBEq, Nat.reduceBNe, reduceIte, reduceDIte, reduceCtorEq]
  skip

def tab16 (B : Base) : Tab := { types := [(9, .str)], elems := [], cons := [(25, cApp35)], hint := [], N := 11, base := B }
theorem good16 {B : Base} (hB : Tabs B) : MGood Tryd.prog (tab16 B) := ⟨⟨types_cons ty9 (types_nil), elems_nil, by simp only [tab16, ioB]; omega⟩, cons_ok (cals_cons (cal_ok Tryd.func25 (by kernel_rfl) rfl (valid25_35 hB)) (cals_nil)), by kernel_rfl⟩
def cGcdT : Con := fun l os => match l, os with
  | [.z .str a, .z .str b], [] => some (Short a ∧ Short b, [.z .str (resS (chkAll [a, b]) (gcdI (numI a) (numI b))), .z (.int .i64) (resE (chkAll [a, b]) (gcdI (numI a) (numI b)))], [])
  | _, _ => none

theorem valid16 {B : Base} (hB : Tabs B) : Valid B Tryd.prog 16 cGcdT := by
  refine valid_of_J (T := tab16 B) (good16 hB).tab Tryd.func16 rfl rfl rfl ?_
  intro args os C rs os' hc hC
  unfold cGcdT at hc
  split at hc
  case h_2 => cases hc
  rename_i a b
  cases hc
  refine ⟨by simp only [List.length_cons, List.length_nil, tab16]; omega, rfl, ?_⟩
  intro X hP hT hr
  have hG : MGood X.P X.T := by rw [hP, hT]; exact good16 hB
  simp only [Tryd.f16, argEnv, ioList, ioB]
  refine r_seq ?_
  refine r_region hG (by simp only [hT, tab16, cApp35, mx0, mx1, mx2, mx3, mx4, mx5, effOp, endCall, callOp, appendOp, sliceLV, Ty.fieldTy, Ty.fieldOf, Nat.reduceLT, Nat.reduceEqDiff, Nat.reduceAdd, Nat.reduceMul, Nat.reduceSub, Nat.reduceLeDiff, Nat.reduceBEq, Nat.reduceBNe, reduceIte, reduceDIte, reduceCtorEq]; rfl) ?_ ?_ -- R0
  · trivial
  refine k_seq ?_
  refine r_seq ?_
  refine r_region hG (by simp only [hT, tab16, cApp35, mx0, mx1, mx2, mx3, mx4, mx5, effOp, endCall, callOp, appendOp, sliceLV, Ty.fieldTy, Ty.fieldOf, Nat.reduceLT, Nat.reduceEqDiff, Nat.reduceAdd, Nat.reduceMul, Nat.reduceSub, Nat.reduceLeDiff, Nat.reduceBEq, Nat.reduceBNe, reduceIte, reduceDIte, reduceCtorEq]; rfl) ?_ ?_ -- R1
  · try simp only [and_true, true_and]
    exact hC
  refine k_seq ?_
  refine r_ret ?_
  refine ⟨[], ?_⟩
  simp only [hT, tab16, mr0, mr1, mr2, Nat.reduceLT, Nat.reduceEqDiff, Nat.reduceAdd, Nat.reduceMul, Nat.reduceSub, Nat.reduceLeDiff, Nat.reduceBEq, Nat.reduceBNe, reduceIte, reduceDIte, reduceCtorEq]
  skip

end Go.Proofs.YtkgbdpmhdplddaaDoor
end

section
/- The functions of the package exact, one after the other: each meets its contract. -/
set_option linter.unusedSimpArgs false
set_option linter.unusedVariables false
set_option maxRecDepth 100000
namespace Go.Proofs.YtkgbdpmhdplddaaDoor
open Go Go.Cm Go.Proofs

def tab9 (B : Base) : Tab := { types := [(3, (.int .i64)), (4, .bool), (5, (.int .u8)), (9, .str), (22, (.slice (.int .u8))), (24, (.st (.pair .bool (.pair (.slice (.int .u8)) (.int .u8)))))], elems := [(22, 5)], cons := [], hint := [], N := 54, base := B }
theorem good9 {B : Base} (hB : Tabs B) : MGood Tryd.prog (tab9 B) := ⟨⟨types_cons ty3 (types_cons ty4 (types_cons ty5 (types_cons ty9 (types_cons ty22 (types_cons ty24 (types_nil)))))), elems_cons (by kernel_rfl) (elems_nil), by simp only [tab9, ioB]; omega⟩, cons_nil rfl, by kernel_rfl⟩
def cDraft : Con := fun l os => match l, os with
  | [.z (.st (.pair .bool (.pair (.slice (.int .u8)) (.int .u8)))) d], [] => some (DOK d, [.z .str (dtext d)], [])
  | _, _ => none

theorem valid9 {B : Base} (hB : Tabs B) : Valid B Tryd.prog 9 cDraft := by
  refine valid_of_J (T := tab9 B) (good9 hB).tab Tryd.func9 rfl rfl rfl ?_
  intro args os C rs os' hc hC
  unfold cDraft at hc
  split at hc
  case h_2 => cases hc
  rename_i d
  cases hc
  refine ⟨by simp only [List.length_cons, List.length_nil, tab9]; omega, rfl, ?_⟩
  intro X hP hT hr
  have hG : MGood X.P X.T := by rw [hP, hT]; exact good9 hB
  simp only [Tryd.f9, argEnv, ioList, ioB]
  refine r_seq ?_
  refine r_region hG (by simp only [hT, tab9, mx0, mx1, mx2, mx3, mx4, mx5, effOp, endCall, callOp, appendOp, sliceLV, Ty.fieldTy, Ty.fieldOf, Nat.reduceLT, Nat.reduceEqDiff, Nat.reduceAdd, Nat.reduceMul, Nat.reduceSub, Nat.reduceLeDiff, Nat.reduceBEq, Nat.reduceBNe, reduceIte, reduceDIte, reduceCtorEq]; rfl) ?_ ?_ -- R0
  · trivial
  refine k_seq ?_
  refine r_seq ?_
  refine r_region hG (by simp only [hT, tab9, mx0, mx1, mx2, mx3, mx4, mx5, effOp, endCall, callOp, appendOp, sliceLV, Ty.fieldTy, Ty.fieldOf, Nat.reduceLT, Nat.reduceEqDiff, Nat.reduceAdd, Nat.reduceMul, Nat.reduceSub, Nat.reduceLeDiff, Nat.reduceBEq, Nat.reduceBNe, reduceIte, reduceDIte, reduceCtorEq]; rfl) ?_ ?_ -- R1
  · trivial
  refine k_seq ?_
  refine r_seq ?_
  refine r_seq ?_
  refine r_region hG (by simp only [hT, tab9, mx0, mx1, mx2, mx3, mx4, mx5, effOp, endCall, callOp, appendOp, sliceLV, Ty.fieldTy, Ty.fieldOf, Nat.reduceLT, Nat.reduceEqDiff, Nat.reduceAdd, Nat.reduceMul, Nat.reduceSub, Nat.reduceLeDiff, Nat.reduceBEq, Nat.reduceBNe, reduceIte, reduceDIte, reduceCtorEq]; rfl) ?_ ?_ -- R2
  · trivial
  refine k_seq ?_
  refine j_block ?_
  refine j_loop (fun (z : Nat) => (⟨[(1, .l (.z (.ptr (.st (.pair .bool (.pair (.slice (.int .u8)) (.int .u8))))) d)), (3, .l (.z .str (dpasses d.2.1 z))), (4, .l (.z (.int .i64) (z : Int)))], []⟩ : AState)) (fun z => z ≤ (d.2.2 % 8).toNat + 1) (fun z => (d.2.2 % 8).toNat + 1 - z) 0 ?_ ?_ ?_
  · simp only [ml0, ml1, Nat.reduceLT, Nat.reduceEqDiff, Nat.reduceAdd, Nat.reduceMul, Nat.reduceSub, Nat.reduceLeDiff, Nat.reduceBEq, Nat.reduceBNe, reduceIte, reduceDIte, reduceCtorEq]
    exact ⟨rfl, rfl⟩
  · omega
  · rintro k hk
    try dsimp only at hk
    refine r_seq ?_
    refine r_seq ?_
    refine r_region hG (by simp only [hT, tab9, mx0, mx1, mx2, mx3, mx4, mx5, effOp, endCall, callOp, appendOp, sliceLV, Ty.fieldTy, Ty.fieldOf, Nat.reduceLT, Nat.reduceEqDiff, Nat.reduceAdd, Nat.reduceMul, Nat.reduceSub, Nat.reduceLeDiff, Nat.reduceBEq, Nat.reduceBNe, reduceIte, reduceDIte, reduceCtorEq]; rfl) ?_ ?_ -- R3
    · try simp only [and_true, true_and]
      decide
    refine k_seq ?_
    refine r_cond (by simp only [hT, tab9, mx0, mx1, mx2, mx3, mx4, mx5, effOp, endCall, callOp, appendOp, sliceLV, Ty.fieldTy, Ty.fieldOf, Nat.reduceLT, Nat.reduceEqDiff, Nat.reduceAdd, Nat.reduceMul, Nat.reduceSub, Nat.reduceLeDiff, Nat.reduceBEq, Nat.reduceBNe, reduceIte, reduceDIte, reduceCtorEq]; rfl) ?_ ?_
    · intro hb0
      try simp only [decide_eq_true_eq, decide_eq_false_iff_not, beq_iff_eq, bne_iff_ne, Bool.not_eq_true', Bool.and_eq_true] at hb0
      refine r_skip ?_
      refine k_seq ?_
      refine r_seq ?_
      refine j_block ?_
      refine r_seq ?_
      refine r_region hG (by simp only [hT, tab9, mx0, mx1, mx2, mx3, mx4, mx5, effOp, endCall, callOp, appendOp, sliceLV, Ty.fieldTy, Ty.fieldOf, Nat.reduceLT, Nat.reduceEqDiff, Nat.reduceAdd, Nat.reduceMul, Nat.reduceSub, Nat.reduceLeDiff, Nat.reduceBEq, Nat.reduceBNe, reduceIte, reduceDIte, reduceCtorEq]; rfl) ?_ ?_ -- R5
      · trivial
      refine k_seq ?_
      refine j_block ?_
      refine j_loop (fun (z : Nat × List UInt8) => (⟨[(1, .l (.z (.ptr (.st (.pair .bool (.pair (.slice (.int .u8)) (.int .u8))))) d)), (3, .l (.z .str z.2)), (4, .l (.z (.int .i64) (k : Int))), (5, .l (.z (.int .i64) (z.1 : Int)))], []⟩ : AState)) (fun z => InPhi d.2.1 (dpasses d.2.1 k) z.1 z.2) (fun z => 30 - z.1) (0, dpasses d.2.1 k) ?_ ?_ ?_
      · simp only [ml0, ml1, Nat.reduceLT, Nat.reduceEqDiff, Nat.reduceAdd, Nat.reduceMul, Nat.reduceSub, Nat.reduceLeDiff, Nat.reduceBEq, Nat.reduceBNe, reduceIte, reduceDIte, reduceCtorEq]
        rfl
      · exact ⟨Nat.zero_le _, Nat.zero_le _, rfl⟩
      · rintro ⟨i, s⟩ hi
        try dsimp only at hi
        refine r_seq ?_
        refine r_seq ?_
        refine r_region hG (by simp only [hT, tab9, mx0, mx1, mx2, mx3, mx4, mx5, effOp, endCall, callOp, appendOp, sliceLV, Ty.fieldTy, Ty.fieldOf, Nat.reduceLT, Nat.reduceEqDiff, Nat.reduceAdd, Nat.reduceMul, Nat.reduceSub, Nat.reduceLeDiff, Nat.reduceBEq, Nat.reduceBNe, reduceIte, reduceDIte, reduceCtorEq]; rfl) ?_ ?_ -- R6
        · try simp only [and_true, true_and]
          exact fun h => h
        refine k_seq ?_
        refine r_cond (by simp only [hT, tab9, mx0, mx1, mx2, mx3, mx4, mx5, effOp, endCall, callOp, appendOp, sliceLV, Ty.fieldTy, Ty.fieldOf, Nat.reduceLT, Nat.reduceEqDiff, Nat.reduceAdd, Nat.reduceMul, Nat.reduceSub, Nat.reduceLeDiff, Nat.reduceBEq, Nat.reduceBNe, reduceIte, reduceDIte, reduceCtorEq]; rfl) ?_ ?_
        · intro hb1
          try simp only [decide_eq_true_eq, decide_eq_false_iff_not, beq_iff_eq, bne_iff_ne, Bool.not_eq_true', Bool.and_eq_true] at hb1
          refine r_skip ?_
          refine k_seq ?_
          refine r_seq ?_
          refine j_block ?_
          refine r_seq ?_
          refine r_region hG (by simp only [hT, tab9, mx0, mx1, mx2, mx3, mx4, mx5, effOp, endCall, callOp, appendOp, sliceLV, Ty.fieldTy, Ty.fieldOf, Nat.reduceLT, Nat.reduceEqDiff, Nat.reduceAdd, Nat.reduceMul, Nat.reduceSub, Nat.reduceLeDiff, Nat.reduceBEq, Nat.reduceBNe, reduceIte, reduceDIte, reduceCtorEq]; rfl) ?_ ?_ -- R8
          · try simp only [and_true, true_and]
            exact ⟨fun h => h, fun h => ⟨h, by omega, hb1.1⟩, fun h => h, fun h => ⟨h, by decide⟩, fun h => h, fun h => by have h2 : (s != []) = !(s == []) := rfl; simp_all⟩
          refine k_seq ?_
          refine r_cond (by simp only [hT, tab9, mx0, mx1, mx2, mx3, mx4, mx5, effOp, endCall, callOp, appendOp, sliceLV, Ty.fieldTy, Ty.fieldOf, Nat.reduceLT, Nat.reduceEqDiff, Nat.reduceAdd, Nat.reduceMul, Nat.reduceSub, Nat.reduceLeDiff, Nat.reduceBEq, Nat.reduceBNe, reduceIte, reduceDIte, reduceCtorEq]; rfl) ?_ ?_
          · intro hb2
            try simp only [decide_eq_true_eq, decide_eq_false_iff_not, beq_iff_eq, bne_iff_ne, Bool.not_eq_true', Bool.and_eq_true] at hb2
            refine r_region hG (by simp only [hT, tab9, mx0, mx1, mx2, mx3, mx4, mx5, effOp, endCall, callOp, appendOp, sliceLV, Ty.fieldTy, Ty.fieldOf, Nat.reduceLT, Nat.reduceEqDiff, Nat.reduceAdd, Nat.reduceMul, Nat.reduceSub, Nat.reduceLeDiff, Nat.reduceBEq, Nat.reduceBNe, reduceIte, reduceDIte, reduceCtorEq]; rfl) ?_ ?_ -- R9
            · try simp only [and_true, true_and]
              have hl := in_len hC hk hi
              exact ⟨⟨by omega, hb1.1⟩, by decide, by have h1 : (strOf [IntKind.u8.wrap (48 + Int.tmod (nth (Ty.int IntKind.u8) d.2.1 (i : Int)) 10)]).length = 1 := rfl; rw [h1]; have h2 : 1000 ≤ maxLen := (by decide); omega⟩
            refine k_block ?_
            refine k_seq ?_
            refine r_region hG (by simp only [hT, tab9, mx0, mx1, mx2, mx3, mx4, mx5, effOp, endCall, callOp, appendOp, sliceLV, Ty.fieldTy, Ty.fieldOf, Nat.reduceLT, Nat.reduceEqDiff, Nat.reduceAdd, Nat.reduceMul, Nat.reduceSub, Nat.reduceLeDiff, Nat.reduceBEq, Nat.reduceBNe, reduceIte, reduceDIte, reduceCtorEq]; rfl) ?_ ?_ -- R7
            · trivial
            show ∃ z, _
            simp only [ml0, ml1, Nat.reduceLT, Nat.reduceEqDiff, Nat.reduceAdd, Nat.reduceMul, Nat.reduceSub, Nat.reduceLeDiff, Nat.reduceBEq, Nat.reduceBNe, reduceIte, reduceDIte, reduceCtorEq]
            first | exact in_true hC hi hb1 hb2 | exact in_false hC hi hb1 hb2
          · intro hb2
            try simp only [decide_eq_true_eq, decide_eq_false_iff_not, beq_eq_false_iff_ne, bne_eq_false_iff_eq, Bool.not_eq_false', Bool.and_eq_false_imp] at hb2
            refine r_skip ?_
            refine k_block ?_
            refine k_seq ?_
            refine r_region hG (by simp only [hT, tab9, mx0, mx1, mx2, mx3, mx4, mx5, effOp, endCall, callOp, appendOp, sliceLV, Ty.fieldTy, Ty.fieldOf, Nat.reduceLT, Nat.reduceEqDiff, Nat.reduceAdd, Nat.reduceMul, Nat.reduceSub, Nat.reduceLeDiff, Nat.reduceBEq, Nat.reduceBNe, reduceIte, reduceDIte, reduceCtorEq]; rfl) ?_ ?_ -- R7
            · trivial
            show ∃ z, _
            simp only [ml0, ml1, Nat.reduceLT, Nat.reduceEqDiff, Nat.reduceAdd, Nat.reduceMul, Nat.reduceSub, Nat.reduceLeDiff, Nat.reduceBEq, Nat.reduceBNe, reduceIte, reduceDIte, reduceCtorEq]
            first | exact in_true hC hi hb1 hb2 | exact in_false hC hi hb1 hb2
        · intro hb1
          try simp only [decide_eq_true_eq, decide_eq_false_iff_not, beq_eq_false_iff_ne, bne_eq_false_iff_eq, Bool.not_eq_false', Bool.and_eq_false_imp] at hb1
          refine r_exit ?_
          refine k_seq_exit ?_
          refine k_round_exit ?_
          refine k_block_exit ?_
          refine k_block ?_
          refine k_seq ?_
          refine r_region hG (by simp only [hT, tab9, mx0, mx1, mx2, mx3, mx4, mx5, effOp, endCall, callOp, appendOp, sliceLV, Ty.fieldTy, Ty.fieldOf, Nat.reduceLT, Nat.reduceEqDiff, Nat.reduceAdd, Nat.reduceMul, Nat.reduceSub, Nat.reduceLeDiff, Nat.reduceBEq, Nat.reduceBNe, reduceIte, reduceDIte, reduceCtorEq]; rfl) ?_ ?_ -- R4
          · trivial
          show ∃ z, _
          simp only [ml0, ml1, Nat.reduceLT, Nat.reduceEqDiff, Nat.reduceAdd, Nat.reduceMul, Nat.reduceSub, Nat.reduceLeDiff, Nat.reduceBEq, Nat.reduceBNe, reduceIte, reduceDIte, reduceCtorEq]
          exact out_next hC hk hb0 hi hb1
    · intro hb0
      try simp only [decide_eq_true_eq, decide_eq_false_iff_not, beq_eq_false_iff_ne, bne_eq_false_iff_eq, Bool.not_eq_false', Bool.and_eq_false_imp] at hb0
      refine r_exit ?_
      refine k_seq_exit ?_
      refine k_round_exit ?_
      refine k_block_exit ?_
      refine k_seq ?_
      refine r_seq ?_
      refine r_seq ?_
      refine r_region hG (by simp only [hT, tab9, mx0, mx1, mx2, mx3, mx4, mx5, effOp, endCall, callOp, appendOp, sliceLV, Ty.fieldTy, Ty.fieldOf, Nat.reduceLT, Nat.reduceEqDiff, Nat.reduceAdd, Nat.reduceMul, Nat.reduceSub, Nat.reduceLeDiff, Nat.reduceBEq, Nat.reduceBNe, reduceIte, reduceDIte, reduceCtorEq]; rfl) ?_ ?_ -- R10
      · trivial
      refine k_seq ?_
      refine r_cond (by simp only [hT, tab9, mx0, mx1, mx2, mx3, mx4, mx5, effOp, endCall, callOp, appendOp, sliceLV, Ty.fieldTy, Ty.fieldOf, Nat.reduceLT, Nat.reduceEqDiff, Nat.reduceAdd, Nat.reduceMul, Nat.reduceSub, Nat.reduceLeDiff, Nat.reduceBEq, Nat.reduceBNe, reduceIte, reduceDIte, reduceCtorEq]; rfl) ?_ ?_
      · intro hb3
        try simp only [decide_eq_true_eq, decide_eq_false_iff_not, beq_iff_eq, bne_iff_ne, Bool.not_eq_true', Bool.and_eq_true] at hb3
        refine r_seq ?_
        refine r_region hG (by simp only [hT, tab9, mx0, mx1, mx2, mx3, mx4, mx5, effOp, endCall, callOp, appendOp, sliceLV, Ty.fieldTy, Ty.fieldOf, Nat.reduceLT, Nat.reduceEqDiff, Nat.reduceAdd, Nat.reduceMul, Nat.reduceSub, Nat.reduceLeDiff, Nat.reduceBEq, Nat.reduceBNe, reduceIte, reduceDIte, reduceCtorEq]; rfl) ?_ ?_ -- R11
        · trivial
        refine k_seq ?_
        refine r_ret ?_
        refine k_seq_ret ?_
        refine ⟨[], ?_⟩
        simp only [hT, tab9, mr0, mr1, mr2, Nat.reduceLT, Nat.reduceEqDiff, Nat.reduceAdd, Nat.reduceMul, Nat.reduceSub, Nat.reduceLeDiff, Nat.reduceBEq, Nat.reduceBNe, reduceIte, reduceDIte, reduceCtorEq]
        rw [out_end hC hk hb0] at hb3
        unfold dtext
        rw [if_pos hb3]
      · intro hb3
        try simp only [decide_eq_true_eq, decide_eq_false_iff_not, beq_eq_false_iff_ne, bne_eq_false_iff_eq, Bool.not_eq_false', Bool.and_eq_false_imp] at hb3
        refine r_skip ?_
        refine k_seq ?_
        refine r_seq ?_
        refine r_seq ?_
        refine r_region hG (by simp only [hT, tab9, mx0, mx1, mx2, mx3, mx4, mx5, effOp, endCall, callOp, appendOp, sliceLV, Ty.fieldTy, Ty.fieldOf, Nat.reduceLT, Nat.reduceEqDiff, Nat.reduceAdd, Nat.reduceMul, Nat.reduceSub, Nat.reduceLeDiff, Nat.reduceBEq, Nat.reduceBNe, reduceIte, reduceDIte, reduceCtorEq]; rfl) ?_ ?_ -- R12
        · trivial
        refine k_seq ?_
        refine r_cond (by simp only [hT, tab9, mx0, mx1, mx2, mx3, mx4, mx5, effOp, endCall, callOp, appendOp, sliceLV, Ty.fieldTy, Ty.fieldOf, Nat.reduceLT, Nat.reduceEqDiff, Nat.reduceAdd, Nat.reduceMul, Nat.reduceSub, Nat.reduceLeDiff, Nat.reduceBEq, Nat.reduceBNe, reduceIte, reduceDIte, reduceCtorEq]; rfl) ?_ ?_
        · intro hb4
          try simp only [decide_eq_true_eq, decide_eq_false_iff_not, beq_iff_eq, bne_iff_ne, Bool.not_eq_true', Bool.and_eq_true] at hb4
          refine r_seq ?_
          refine r_region hG (by simp only [hT, tab9, mx0, mx1, mx2, mx3, mx4, mx5, effOp, endCall, callOp, appendOp, sliceLV, Ty.fieldTy, Ty.fieldOf, Nat.reduceLT, Nat.reduceEqDiff, Nat.reduceAdd, Nat.reduceMul, Nat.reduceSub, Nat.reduceLeDiff, Nat.reduceBEq, Nat.reduceBNe, reduceIte, reduceDIte, reduceCtorEq]; rfl) ?_ ?_ -- R13
          · try simp only [and_true, true_and]
            rw [out_end hC hk hb0]
            have := dmag_len hC
            have h2 : 1000 ≤ maxLen := by decide
            omega
          refine k_seq ?_
          refine r_ret ?_
          refine k_seq_ret ?_
          refine ⟨[], ?_⟩
          simp only [hT, tab9, mr0, mr1, mr2, Nat.reduceLT, Nat.reduceEqDiff, Nat.reduceAdd, Nat.reduceMul, Nat.reduceSub, Nat.reduceLeDiff, Nat.reduceBEq, Nat.reduceBNe, reduceIte, reduceDIte, reduceCtorEq]
          rw [out_end hC hk hb0] at hb3 ⊢
          unfold dtext
          rw [if_neg hb3, if_pos hb4]
        · intro hb4
          try simp only [decide_eq_true_eq, decide_eq_false_iff_not, beq_eq_false_iff_ne, bne_eq_false_iff_eq, Bool.not_eq_false', Bool.and_eq_false_imp] at hb4
          refine r_skip ?_
          refine k_seq ?_
          refine r_seq ?_
          refine r_region hG (by simp only [hT, tab9, mx0, mx1, mx2, mx3, mx4, mx5, effOp, endCall, callOp, appendOp, sliceLV, Ty.fieldTy, Ty.fieldOf, Nat.reduceLT, Nat.reduceEqDiff, Nat.reduceAdd, Nat.reduceMul, Nat.reduceSub, Nat.reduceLeDiff, Nat.reduceBEq, Nat.reduceBNe, reduceIte, reduceDIte, reduceCtorEq]; rfl) ?_ ?_ -- R14
          · trivial
          refine k_seq ?_
          refine r_ret ?_
          refine ⟨[], ?_⟩
          simp only [hT, tab9, mr0, mr1, mr2, Nat.reduceLT, Nat.reduceEqDiff, Nat.reduceAdd, Nat.reduceMul, Nat.reduceSub, Nat.reduceLeDiff, Nat.reduceBEq, Nat.reduceBNe, reduceIte, reduceDIte, reduceCtorEq]
          rw [out_end hC hk hb0] at hb3 ⊢
          unfold dtext
          rw [if_neg hb3, if_neg (by rw [hb4]; decide)]

end Go.Proofs.YtkgbdpmhdplddaaDoor
end

section
/- The functions of the package exact, one after the other: each meets its contract. -/
set_option linter.unusedSimpArgs false
set_option linter.unusedVariables false
set_option maxRecDepth 100000
namespace Go.Proofs.YtkgbdpmhdplddaaDoor
open Go Go.Cm Go.Proofs

def tab19 (B : Base) : Tab := { types := [(27, (.int .i64)), (55, (.st (.pair .bool (.slice (.int .u32))))), (56, (.slice (.st (.pair .bool (.slice (.int .u32)))))), (85, (.slice .str))], elems := [(85, 9)], cons := [(30, cReads), (38, cInt)], hint := [], N := 27, base := B }
theorem good19 {B : Base} (hB : Tabs B) : MGood Tryd.prog (tab19 B) := ⟨⟨types_cons ty27 (types_cons ty55 (types_cons ty56 (types_cons ty85 (types_nil)))), elems_cons (by kernel_rfl) (elems_nil), by simp only [tab19, ioB]; omega⟩, cons_ok (cals_cons (cal_ok Tryd.func30 (by kernel_rfl) rfl (valid30 hB)) (cals_cons (cal_ok Tryd.func38 (by kernel_rfl) rfl (valid38 hB)) (cals_nil))), by kernel_rfl⟩
def cIntT : Con := fun l os => match l, os with
  | [.z .str s], [] => some (Short s, [.z (.int .i64) (intV s), .z (.int .i64) (intE s)], [])
  | _, _ => none

theorem valid19 {B : Base} (hB : Tabs B) : Valid B Tryd.prog 19 cIntT := by
  refine valid_of_J (T := tab19 B) (good19 hB).tab Tryd.func19 rfl rfl rfl ?_
  intro args os C rs os' hc hC
  unfold cIntT at hc
  split at hc
  case h_2 => cases hc
  rename_i s
  cases hc
  refine ⟨by simp only [List.length_cons, List.length_nil, tab19]; omega, rfl, ?_⟩
  intro X hP hT hr
  have hG : MGood X.P X.T := by rw [hP, hT]; exact good19 hB
  simp only [Tryd.f19, argEnv, ioList, ioB]
  refine r_seq ?_
  refine r_region hG (by simp only [hT, tab19, cReads, cInt, mx0, mx1, mx2, mx3, mx4, mx5, effOp, endCall, callOp, appendOp, sliceLV, Ty.fieldTy, Ty.fieldOf, Nat.reduceLT, Nat.reduceEqDiff, Nat.reduceAdd, Nat.reduceMul, Nat.reduceSub, Nat.reduceLeDiff, Nat.reduceBEq, Nat.reduceBNe, reduceIte, reduceDIte, reduceCtorEq]; rfl) ?_ ?_ -- R0
  · trivial
  refine k_seq ?_
  refine r_seq ?_
  refine r_region hG (by simp only [hT, tab19, cReads, cInt, mx0, mx1, mx2, mx3, mx4, mx5, effOp, endCall, callOp, appendOp, sliceLV, Ty.fieldTy, Ty.fieldOf, Nat.reduceLT, Nat.reduceEqDiff, Nat.reduceAdd, Nat.reduceMul, Nat.reduceSub, Nat.reduceLeDiff, Nat.reduceBEq, Nat.reduceBNe, reduceIte, reduceDIte, reduceCtorEq]; rfl) ?_ ?_ -- R1
  · try simp only [and_true, true_and]
    exact shorts1 hC
  refine k_seq ?_
  refine r_seq ?_
  refine r_seq ?_
  refine r_region hG (by simp only [hT, tab19, cReads, cInt, mx0, mx1, mx2, mx3, mx4, mx5, effOp, endCall, callOp, appendOp, sliceLV, Ty.fieldTy, Ty.fieldOf, Nat.reduceLT, Nat.reduceEqDiff, Nat.reduceAdd, Nat.reduceMul, Nat.reduceSub, Nat.reduceLeDiff, Nat.reduceBEq, Nat.reduceBNe, reduceIte, reduceDIte, reduceCtorEq]; rfl) ?_ ?_ -- R2
  · trivial
  refine k_seq ?_
  refine r_cond (by simp only [hT, tab19, mx0, mx1, mx2, mx3, mx4, mx5, effOp, endCall, callOp, appendOp, sliceLV, Ty.fieldTy, Ty.fieldOf, Nat.reduceLT, Nat.reduceEqDiff, Nat.reduceAdd, Nat.reduceMul, Nat.reduceSub, Nat.reduceLeDiff, Nat.reduceBEq, Nat.reduceBNe, reduceIte, reduceDIte, reduceCtorEq]; rfl) ?_ ?_
  · intro hb0
    try simp only [decide_eq_true_eq, decide_eq_false_iff_not, beq_iff_eq, bne_iff_ne, Bool.not_eq_true', Bool.and_eq_true] at hb0
    refine r_seq ?_
    refine r_region hG (by simp only [hT, tab19, cReads, cInt, mx0, mx1, mx2, mx3, mx4, mx5, effOp, endCall, callOp, appendOp, sliceLV, Ty.fieldTy, Ty.fieldOf, Nat.reduceLT, Nat.reduceEqDiff, Nat.reduceAdd, Nat.reduceMul, Nat.reduceSub, Nat.reduceLeDiff, Nat.reduceBEq, Nat.reduceBNe, reduceIte, reduceDIte, reduceCtorEq]; rfl) ?_ ?_ -- R3
    · trivial
    refine k_seq ?_
    refine r_ret ?_
    refine k_seq_ret ?_
    refine ⟨[], ?_⟩
    simp only [hT, tab19, mr0, mr1, mr2, Nat.reduceLT, Nat.reduceEqDiff, Nat.reduceAdd, Nat.reduceMul, Nat.reduceSub, Nat.reduceLeDiff, Nat.reduceBEq, Nat.reduceBNe, reduceIte, reduceDIte, reduceCtorEq]
    exact int_bad hb0
  · intro hb0
    try simp only [decide_eq_true_eq, decide_eq_false_iff_not, beq_eq_false_iff_ne, bne_eq_false_iff_eq, Bool.not_eq_false', Bool.and_eq_false_imp] at hb0
    refine r_skip ?_
    refine k_seq ?_
    refine r_seq ?_
    refine r_region hG (by simp only [hT, tab19, cReads, cInt, mx0, mx1, mx2, mx3, mx4, mx5, effOp, endCall, callOp, appendOp, sliceLV, Ty.fieldTy, Ty.fieldOf, Nat.reduceLT, Nat.reduceEqDiff, Nat.reduceAdd, Nat.reduceMul, Nat.reduceSub, Nat.reduceLeDiff, Nat.reduceBEq, Nat.reduceBNe, reduceIte, reduceDIte, reduceCtorEq]; rfl) ?_ ?_ -- R4
    · try simp only [and_true, true_and]
      obtain ⟨r1, r2, r3, r4⟩ := read1 hb0
      exact ⟨⟨by omega, r2⟩, by rw [r3]; exact enc_ok _, by rw [r3]; unfold CAP; omega⟩
    refine k_seq ?_
    refine r_seq ?_
    refine r_seq ?_
    refine r_region hG (by simp only [hT, tab19, cReads, cInt, mx0, mx1, mx2, mx3, mx4, mx5, effOp, endCall, callOp, appendOp, sliceLV, Ty.fieldTy, Ty.fieldOf, Nat.reduceLT, Nat.reduceEqDiff, Nat.reduceAdd, Nat.reduceMul, Nat.reduceSub, Nat.reduceLeDiff, Nat.reduceBEq, Nat.reduceBNe, reduceIte, reduceDIte, reduceCtorEq]; rfl) ?_ ?_ -- R5
    · trivial
    refine k_seq ?_
    refine r_cond (by simp only [hT, tab19, mx0, mx1, mx2, mx3, mx4, mx5, effOp, endCall, callOp, appendOp, sliceLV, Ty.fieldTy, Ty.fieldOf, Nat.reduceLT, Nat.reduceEqDiff, Nat.reduceAdd, Nat.reduceMul, Nat.reduceSub, Nat.reduceLeDiff, Nat.reduceBEq, Nat.reduceBNe, reduceIte, reduceDIte, reduceCtorEq]; rfl) ?_ ?_
    · intro hb1
      try simp only [decide_eq_true_eq, decide_eq_false_iff_not, beq_iff_eq, bne_iff_ne, Bool.not_eq_true', Bool.and_eq_true] at hb1
      refine r_seq ?_
      refine r_region hG (by simp only [hT, tab19, cReads, cInt, mx0, mx1, mx2, mx3, mx4, mx5, effOp, endCall, callOp, appendOp, sliceLV, Ty.fieldTy, Ty.fieldOf, Nat.reduceLT, Nat.reduceEqDiff, Nat.reduceAdd, Nat.reduceMul, Nat.reduceSub, Nat.reduceLeDiff, Nat.reduceBEq, Nat.reduceBNe, reduceIte, reduceDIte, reduceCtorEq]; rfl) ?_ ?_ -- R6
      · trivial
      refine k_seq ?_
      refine r_ret ?_
      refine k_seq_ret ?_
      refine ⟨[], ?_⟩
      simp only [hT, tab19, mr0, mr1, mr2, Nat.reduceLT, Nat.reduceEqDiff, Nat.reduceAdd, Nat.reduceMul, Nat.reduceSub, Nat.reduceLeDiff, Nat.reduceBEq, Nat.reduceBNe, reduceIte, reduceDIte, reduceCtorEq]
      exact int_big hb0 hb1
    · intro hb1
      try simp only [decide_eq_true_eq, decide_eq_false_iff_not, beq_eq_false_iff_ne, bne_eq_false_iff_eq, Bool.not_eq_false', Bool.and_eq_false_imp] at hb1
      refine r_skip ?_
      refine k_seq ?_
      refine r_seq ?_
      refine r_region hG (by simp only [hT, tab19, cReads, cInt, mx0, mx1, mx2, mx3, mx4, mx5, effOp, endCall, callOp, appendOp, sliceLV, Ty.fieldTy, Ty.fieldOf, Nat.reduceLT, Nat.reduceEqDiff, Nat.reduceAdd, Nat.reduceMul, Nat.reduceSub, Nat.reduceLeDiff, Nat.reduceBEq, Nat.reduceBNe, reduceIte, reduceDIte, reduceCtorEq]; rfl) ?_ ?_ -- R7
      · trivial
      refine k_seq ?_
      refine r_ret ?_
      refine ⟨[], ?_⟩
      simp only [hT, tab19, mr0, mr1, mr2, Nat.reduceLT, Nat.reduceEqDiff, Nat.reduceAdd, Nat.reduceMul, Nat.reduceSub, Nat.reduceLeDiff, Nat.reduceBEq, Nat.reduceBNe, reduceIte, reduceDIte, reduceCtorEq]
      exact int_ok hb0 hb1

def tab15 (B : Base) : Tab := { types := [(27, (.int .i64)), (55, (.st (.pair .bool (.slice (.int .u32))))), (56, (.slice (.st (.pair .bool (.slice (.int .u32)))))), (85, (.slice .str))], elems := [(85, 9)], cons := [(30, cReads), (34, cCmp)], hint := [], N := 25, base := B }
theorem good15 {B : Base} (hB : Tabs B) : MGood Tryd.prog (tab15 B) := ⟨⟨types_cons ty27 (types_cons ty55 (types_cons ty56 (types_cons ty85 (types_nil)))), elems_cons (by kernel_rfl) (elems_nil), by simp only [tab15, ioB]; omega⟩, cons_ok (cals_cons (cal_ok Tryd.func30 (by kernel_rfl) rfl (valid30 hB)) (cals_cons (cal_ok Tryd.func34 (by kernel_rfl) rfl (valid34 hB)) (cals_nil))), by kernel_rfl⟩
def cCmpT : Con := fun l os => match l, os with
  | [.z .str a, .z .str b], [] => some (Short a ∧ Short b, [.z (.int .i64) (cmpV a b), .z (.int .i64) (chkAll [a, b])], [])
  | _, _ => none

theorem valid15 {B : Base} (hB : Tabs B) : Valid B Tryd.prog 15 cCmpT := by
  refine valid_of_J (T := tab15 B) (good15 hB).tab Tryd.func15 rfl rfl rfl ?_
  intro args os C rs os' hc hC
  unfold cCmpT at hc
  split at hc
  case h_2 => cases hc
  rename_i a b
  cases hc
  refine ⟨by simp only [List.length_cons, List.length_nil, tab15]; omega, rfl, ?_⟩
  intro X hP hT hr
  have hG : MGood X.P X.T := by rw [hP, hT]; exact good15 hB
  simp only [Tryd.f15, argEnv, ioList, ioB]
  refine r_seq ?_
  refine r_region hG (by simp only [hT, tab15, cReads, cCmp, mx0, mx1, mx2, mx3, mx4, mx5, effOp, endCall, callOp, appendOp, sliceLV, Ty.fieldTy, Ty.fieldOf, Nat.reduceLT, Nat.reduceEqDiff, Nat.reduceAdd, Nat.reduceMul, Nat.reduceSub, Nat.reduceLeDiff, Nat.reduceBEq, Nat.reduceBNe, reduceIte, reduceDIte, reduceCtorEq]; rfl) ?_ ?_ -- R0
  · trivial
  refine k_seq ?_
  refine r_seq ?_
  refine r_region hG (by simp only [hT, tab15, cReads, cCmp, mx0, mx1, mx2, mx3, mx4, mx5, effOp, endCall, callOp, appendOp, sliceLV, Ty.fieldTy, Ty.fieldOf, Nat.reduceLT, Nat.reduceEqDiff, Nat.reduceAdd, Nat.reduceMul, Nat.reduceSub, Nat.reduceLeDiff, Nat.reduceBEq, Nat.reduceBNe, reduceIte, reduceDIte, reduceCtorEq]; rfl) ?_ ?_ -- R1
  · try simp only [and_true, true_and]
    exact shorts2 hC
  refine k_seq ?_
  refine r_seq ?_
  refine r_seq ?_
  refine r_region hG (by simp only [hT, tab15, cReads, cCmp, mx0, mx1, mx2, mx3, mx4, mx5, effOp, endCall, callOp, appendOp, sliceLV, Ty.fieldTy, Ty.fieldOf, Nat.reduceLT, Nat.reduceEqDiff, Nat.reduceAdd, Nat.reduceMul, Nat.reduceSub, Nat.reduceLeDiff, Nat.reduceBEq, Nat.reduceBNe, reduceIte, reduceDIte, reduceCtorEq]; rfl) ?_ ?_ -- R2
  · trivial
  refine k_seq ?_
  refine r_cond (by simp only [hT, tab15, mx0, mx1, mx2, mx3, mx4, mx5, effOp, endCall, callOp, appendOp, sliceLV, Ty.fieldTy, Ty.fieldOf, Nat.reduceLT, Nat.reduceEqDiff, Nat.reduceAdd, Nat.reduceMul, Nat.reduceSub, Nat.reduceLeDiff, Nat.reduceBEq, Nat.reduceBNe, reduceIte, reduceDIte, reduceCtorEq]; rfl) ?_ ?_
  · intro hb0
    try simp only [decide_eq_true_eq, decide_eq_false_iff_not, beq_iff_eq, bne_iff_ne, Bool.not_eq_true', Bool.and_eq_true] at hb0
    refine r_seq ?_
    refine r_region hG (by simp only [hT, tab15, cReads, cCmp, mx0, mx1, mx2, mx3, mx4, mx5, effOp, endCall, callOp, appendOp, sliceLV, Ty.fieldTy, Ty.fieldOf, Nat.reduceLT, Nat.reduceEqDiff, Nat.reduceAdd, Nat.reduceMul, Nat.reduceSub, Nat.reduceLeDiff, Nat.reduceBEq, Nat.reduceBNe, reduceIte, reduceDIte, reduceCtorEq]; rfl) ?_ ?_ -- R3
    · trivial
    refine k_seq ?_
    refine r_ret ?_
    refine k_seq_ret ?_
    refine ⟨[], ?_⟩
    simp only [hT, tab15, mr0, mr1, mr2, Nat.reduceLT, Nat.reduceEqDiff, Nat.reduceAdd, Nat.reduceMul, Nat.reduceSub, Nat.reduceLeDiff, Nat.reduceBEq, Nat.reduceBNe, reduceIte, reduceDIte, reduceCtorEq]
    exact cmp_bad hb0
  · intro hb0
    try simp only [decide_eq_true_eq, decide_eq_false_iff_not, beq_eq_false_iff_ne, bne_eq_false_iff_eq, Bool.not_eq_false', Bool.and_eq_false_imp] at hb0
    refine r_skip ?_
    refine k_seq ?_
    refine r_seq ?_
    refine r_draw hG (by simp only [hT, mt0, tab15, cReads, cCmp, mx0, mx1, mx2, mx3, mx4, mx5, effOp, endCall, callOp, appendOp, sliceLV, Ty.fieldTy, Ty.fieldOf, Nat.reduceLT, Nat.reduceEqDiff, Nat.reduceAdd, Nat.reduceMul, Nat.reduceSub, Nat.reduceLeDiff, Nat.reduceBEq, Nat.reduceBNe, reduceIte, reduceDIte, reduceCtorEq]; rfl) (by kernel_rfl) (by rfl) (by rfl) ?_ ?_ -- R4
    · try simp only [and_true, true_and]
      exact cmp_side hb0
    refine k_seq ?_
    refine r_ret ?_
    refine ⟨[], ?_⟩
    simp only [hT, tab15, mr0, mr1, mr2, Nat.reduceLT, Nat.reduceEqDiff, Nat.reduceAdd, Nat.reduceMul, Nat.reduceSub, Nat.reduceLeDiff, Nat.reduceBEq, Nat.reduceBNe, reduceIte, reduceDIte, reduceCtorEq]
    exact cmp_ok hb0

end Go.Proofs.YtkgbdpmhdplddaaDoor
end

section
/- The functions of the package exact, one after the other: each meets its contract. -/
set_option linter.unusedSimpArgs false
set_option linter.unusedVariables false
set_option maxRecDepth 100000
namespace Go.Proofs.YtkgbdpmhdplddaaDoor
open Go Go.Cm Go.Proofs

def tab32 (B : Base) : Tab := { types := [(3, (.int .i64)), (4, .bool), (53, (.slice (.int .u32))), (55, (.st (.pair .bool (.slice (.int .u32)))))], elems := [], cons := [(26, cAdd), (29, cSub), (31, cSign), (37, cSmall), (49, cWhole), (55, cDivided)], hint := [], N := 47, base := B }
theorem good32 {B : Base} (hB : Tabs B) : MGood Tryd.prog (tab32 B) := ⟨⟨types_cons ty3 (types_cons ty4 (types_cons ty53 (types_cons ty55 (types_nil)))), elems_nil, by simp only [tab32, ioB]; omega⟩, cons_ok (cals_cons (cal_ok Tryd.func26 (by kernel_rfl) rfl (valid26 hB)) (cals_cons (cal_ok Tryd.func29 (by kernel_rfl) rfl (valid29 hB)) (cals_cons (cal_ok Tryd.func31 (by kernel_rfl) rfl (valid31 hB)) (cals_cons (cal_ok Tryd.func37 (by kernel_rfl) rfl (valid37 hB)) (cals_cons (cal_ok Tryd.func49 (by kernel_rfl) rfl (valid49 hB)) (cals_cons (cal_ok Tryd.func55 (by kernel_rfl) rfl (valid55 hB)) (cals_nil))))))), by kernel_rfl⟩
def cDivW : Con := fun l os => match l, os with
  | [.z (.st (.pair .bool (.slice (.int .u32)))) x, .z (.st (.pair .bool (.slice (.int .u32)))) y], [] => some (DivPre x y, [.z (.st (.pair .bool (.slice (.int .u32)))) (enc (floorQ (dec x) (dec y))), .z (.st (.pair .bool (.slice (.int .u32)))) (enc (floorR (dec x) (dec y)))], [])
  | _, _ => none

theorem valid32 {B : Base} (hB : Tabs B) : Valid B Tryd.prog 32 cDivW := by
  refine valid_of_J (T := tab32 B) (good32 hB).tab Tryd.func32 rfl rfl rfl ?_
  intro args os C rs os' hc hC
  unfold cDivW at hc
  split at hc
  case h_2 => cases hc
  rename_i x y
  cases hc
  refine ⟨by simp only [List.length_cons, List.length_nil, tab32]; omega, rfl, ?_⟩
  intro X hP hT hr
  have hG : MGood X.P X.T := by rw [hP, hT]; exact good32 hB
  simp only [Tryd.f32, argEnv, ioList, ioB]
  refine r_seq ?_
  refine r_region hG (by simp only [hT, tab32, cDivided, cWhole, cSign, cSmall, cSub, cAdd, mx0, mx1, mx2, mx3, mx4, mx5, effOp, endCall, callOp, appendOp, sliceLV, Ty.fieldTy, Ty.fieldOf, Nat.reduceLT, Nat.reduceEqDiff, Nat.reduceAdd, Nat.reduceMul, Nat.reduceSub, Nat.reduceLeDiff, Nat.reduceBEq, Nat.reduceBNe, reduceIte, reduceDIte, reduceCtorEq]; rfl) ?_ ?_ -- R0
  · trivial
  refine k_seq ?_
  refine r_seq ?_
  refine r_region hG (by simp only [hT, tab32, cDivided, cWhole, cSign, cSmall, cSub, cAdd, mx0, mx1, mx2, mx3, mx4, mx5, effOp, endCall, callOp, appendOp, sliceLV, Ty.fieldTy, Ty.fieldOf, Nat.reduceLT, Nat.reduceEqDiff, Nat.reduceAdd, Nat.reduceMul, Nat.reduceSub, Nat.reduceLeDiff, Nat.reduceBEq, Nat.reduceBNe, reduceIte, reduceDIte, reduceCtorEq]; rfl) ?_ ?_ -- R1
  · try simp only [and_true, true_and]
    exact hC.side1
  refine k_seq ?_
  refine r_seq ?_
  refine r_draw hG (by simp only [hT, mt0, tab32, cDivided, cWhole, cSign, cSmall, cSub, cAdd, mx0, mx1, mx2, mx3, mx4, mx5, effOp, endCall, callOp, appendOp, sliceLV, Ty.fieldTy, Ty.fieldOf, Nat.reduceLT, Nat.reduceEqDiff, Nat.reduceAdd, Nat.reduceMul, Nat.reduceSub, Nat.reduceLeDiff, Nat.reduceBEq, Nat.reduceBNe, reduceIte, reduceDIte, reduceCtorEq]; rfl) (by kernel_rfl) (by rfl) (by rfl) ?_ ?_ -- R2
  · try simp only [and_true, true_and]
    exact hC.side2
  refine k_seq ?_
  refine r_seq ?_
  refine r_seq ?_
  refine r_region hG (by simp only [hT, tab32, cDivided, cWhole, cSign, cSmall, cSub, cAdd, mx0, mx1, mx2, mx3, mx4, mx5, effOp, endCall, callOp, appendOp, sliceLV, Ty.fieldTy, Ty.fieldOf, Nat.reduceLT, Nat.reduceEqDiff, Nat.reduceAdd, Nat.reduceMul, Nat.reduceSub, Nat.reduceLeDiff, Nat.reduceBEq, Nat.reduceBNe, reduceIte, reduceDIte, reduceCtorEq]; rfl) ?_ ?_ -- R3
  · try simp only [and_true, true_and]
    exact ⟨enc_ok _, fun h => h⟩
  refine k_seq ?_
  refine r_cond (by simp only [hT, tab32, mx0, mx1, mx2, mx3, mx4, mx5, effOp, endCall, callOp, appendOp, sliceLV, Ty.fieldTy, Ty.fieldOf, Nat.reduceLT, Nat.reduceEqDiff, Nat.reduceAdd, Nat.reduceMul, Nat.reduceSub, Nat.reduceLeDiff, Nat.reduceBEq, Nat.reduceBNe, reduceIte, reduceDIte, reduceCtorEq]; rfl) ?_ ?_
  · intro hb0
    try simp only [decide_eq_true_eq, decide_eq_false_iff_not, beq_iff_eq, bne_iff_ne, Bool.not_eq_true', Bool.and_eq_true] at hb0
    refine r_draw hG (by simp only [hT, mt0, tab32, cDivided, cWhole, cSign, cSmall, cSub, cAdd, mx0, mx1, mx2, mx3, mx4, mx5, effOp, endCall, callOp, appendOp, sliceLV, Ty.fieldTy, Ty.fieldOf, Nat.reduceLT, Nat.reduceEqDiff, Nat.reduceAdd, Nat.reduceMul, Nat.reduceSub, Nat.reduceLeDiff, Nat.reduceBEq, Nat.reduceBNe, reduceIte, reduceDIte, reduceCtorEq]; rfl) (by kernel_rfl) (by rfl) (by rfl) ?_ ?_ -- R4
    · try simp only [and_true, true_and]
      exact hC.side4
    refine k_seq ?_
    refine r_seq ?_
    refine r_draw hG (by simp only [hT, mt0, tab32, cDivided, cWhole, cSign, cSmall, cSub, cAdd, mx0, mx1, mx2, mx3, mx4, mx5, effOp, endCall, callOp, appendOp, sliceLV, Ty.fieldTy, Ty.fieldOf, Nat.reduceLT, Nat.reduceEqDiff, Nat.reduceAdd, Nat.reduceMul, Nat.reduceSub, Nat.reduceLeDiff, Nat.reduceBEq, Nat.reduceBNe, reduceIte, reduceDIte, reduceCtorEq]; rfl) (by kernel_rfl) (by rfl) (by rfl) ?_ ?_ -- R5
    · trivial
    refine k_seq ?_
    refine r_ret ?_
    refine ⟨[], ?_⟩
    simp only [hT, tab32, mr0, mr1, mr2, Nat.reduceLT, Nat.reduceEqDiff, Nat.reduceAdd, Nat.reduceMul, Nat.reduceSub, Nat.reduceLeDiff, Nat.reduceBEq, Nat.reduceBNe, reduceIte, reduceDIte, reduceCtorEq]
    exact hC.fin1 hb0
  · intro hb0
    try simp only [decide_eq_true_eq, decide_eq_false_iff_not, beq_eq_false_iff_ne, bne_eq_false_iff_eq, Bool.not_eq_false', Bool.and_eq_false_imp] at hb0
    refine r_skip ?_
    refine k_seq ?_
    refine r_seq ?_
    refine r_draw hG (by simp only [hT, mt0, tab32, cDivided, cWhole, cSign, cSmall, cSub, cAdd, mx0, mx1, mx2, mx3, mx4, mx5, effOp, endCall, callOp, appendOp, sliceLV, Ty.fieldTy, Ty.fieldOf, Nat.reduceLT, Nat.reduceEqDiff, Nat.reduceAdd, Nat.reduceMul, Nat.reduceSub, Nat.reduceLeDiff, Nat.reduceBEq, Nat.reduceBNe, reduceIte, reduceDIte, reduceCtorEq]; rfl) (by kernel_rfl) (by rfl) (by rfl) ?_ ?_ -- R5
    · trivial
    refine k_seq ?_
    refine r_ret ?_
    refine ⟨[], ?_⟩
    simp only [hT, tab32, mr0, mr1, mr2, Nat.reduceLT, Nat.reduceEqDiff, Nat.reduceAdd, Nat.reduceMul, Nat.reduceSub, Nat.reduceLeDiff, Nat.reduceBEq, Nat.reduceBNe, reduceIte, reduceDIte, reduceCtorEq]
    exact hC.fin2 hb0

end Go.Proofs.YtkgbdpmhdplddaaDoor
end

section
/- The functions of the package exact, one after the other: each meets its contract. -/
set_option linter.unusedSimpArgs false
set_option linter.unusedVariables false
set_option maxRecDepth 100000
namespace Go.Proofs.YtkgbdpmhdplddaaDoor
open Go Go.Cm Go.Proofs

def tab14 (B : Base) : Tab := { types := [(3, (.int .i64)), (27, (.int .i64)), (55, (.st (.pair .bool (.slice (.int .u32))))), (56, (.slice (.st (.pair .bool (.slice (.int .u32)))))), (85, (.slice .str))], elems := [(85, 9)], cons := [(30, cReads), (31, cSign), (32, cDivW), (33, cText)], hint := [], N := 39, base := B }
theorem good14 {B : Base} (hB : Tabs B) : MGood Tryd.prog (tab14 B) := ⟨⟨types_cons ty3 (types_cons ty27 (types_cons ty55 (types_cons ty56 (types_cons ty85 (types_nil))))), elems_cons (by kernel_rfl) (elems_nil), by simp only [tab14, ioB]; omega⟩, cons_ok (cals_cons (cal_ok Tryd.func30 (by kernel_rfl) rfl (valid30 hB)) (cals_cons (cal_ok Tryd.func31 (by kernel_rfl) rfl (valid31 hB)) (cals_cons (cal_ok Tryd.func32 (by kernel_rfl) rfl (valid32 hB)) (cals_cons (cal_ok Tryd.func33 (by kernel_rfl) rfl (valid33 hB)) (cals_nil))))), by kernel_rfl⟩
def cDivT : Con := fun l os => match l, os with
  | [.z .str a, .z .str b], [] => some (Short a ∧ Short b, [.z .str (divV1 a b), .z .str (divV2 a b), .z (.int .i64) (divVE a b)], [])
  | _, _ => none

theorem valid14 {B : Base} (hB : Tabs B) : Valid B Tryd.prog 14 cDivT := by
  refine valid_of_J (T := tab14 B) (good14 hB).tab Tryd.func14 rfl rfl rfl ?_
  intro args os C rs os' hc hC
  unfold cDivT at hc
  split at hc
  case h_2 => cases hc
  rename_i a b
  cases hc
  refine ⟨by simp only [List.length_cons, List.length_nil, tab14]; omega, rfl, ?_⟩
  intro X hP hT hr
  have hG : MGood X.P X.T := by rw [hP, hT]; exact good14 hB
  simp only [Tryd.f14, argEnv, ioList, ioB]
  refine r_seq ?_
  refine r_region hG (by simp only [hT, tab14, cReads, cSign, cDivW, cText, mx0, mx1, mx2, mx3, mx4, mx5, effOp, endCall, callOp, appendOp, sliceLV, Ty.fieldTy, Ty.fieldOf, Nat.reduceLT, Nat.reduceEqDiff, Nat.reduceAdd, Nat.reduceMul, Nat.reduceSub, Nat.reduceLeDiff, Nat.reduceBEq, Nat.reduceBNe, reduceIte, reduceDIte, reduceCtorEq]; rfl) ?_ ?_ -- R0
  · trivial
  refine k_seq ?_
  refine r_seq ?_
  refine r_region hG (by simp only [hT, tab14, cReads, cSign, cDivW, cText, mx0, mx1, mx2, mx3, mx4, mx5, effOp, endCall, callOp, appendOp, sliceLV, Ty.fieldTy, Ty.fieldOf, Nat.reduceLT, Nat.reduceEqDiff, Nat.reduceAdd, Nat.reduceMul, Nat.reduceSub, Nat.reduceLeDiff, Nat.reduceBEq, Nat.reduceBNe, reduceIte, reduceDIte, reduceCtorEq]; rfl) ?_ ?_ -- R1
  · try simp only [and_true, true_and]
    exact shorts2 hC
  refine k_seq ?_
  refine r_seq ?_
  refine r_seq ?_
  refine r_region hG (by simp only [hT, tab14, cReads, cSign, cDivW, cText, mx0, mx1, mx2, mx3, mx4, mx5, effOp, endCall, callOp, appendOp, sliceLV, Ty.fieldTy, Ty.fieldOf, Nat.reduceLT, Nat.reduceEqDiff, Nat.reduceAdd, Nat.reduceMul, Nat.reduceSub, Nat.reduceLeDiff, Nat.reduceBEq, Nat.reduceBNe, reduceIte, reduceDIte, reduceCtorEq]; rfl) ?_ ?_ -- R2
  · trivial
  refine k_seq ?_
  refine r_cond (by simp only [hT, tab14, mx0, mx1, mx2, mx3, mx4, mx5, effOp, endCall, callOp, appendOp, sliceLV, Ty.fieldTy, Ty.fieldOf, Nat.reduceLT, Nat.reduceEqDiff, Nat.reduceAdd, Nat.reduceMul, Nat.reduceSub, Nat.reduceLeDiff, Nat.reduceBEq, Nat.reduceBNe, reduceIte, reduceDIte, reduceCtorEq]; rfl) ?_ ?_
  · intro hb0
    try simp only [decide_eq_true_eq, decide_eq_false_iff_not, beq_iff_eq, bne_iff_ne, Bool.not_eq_true', Bool.and_eq_true] at hb0
    refine r_seq ?_
    refine r_region hG (by simp only [hT, tab14, cReads, cSign, cDivW, cText, mx0, mx1, mx2, mx3, mx4, mx5, effOp, endCall, callOp, appendOp, sliceLV, Ty.fieldTy, Ty.fieldOf, Nat.reduceLT, Nat.reduceEqDiff, Nat.reduceAdd, Nat.reduceMul, Nat.reduceSub, Nat.reduceLeDiff, Nat.reduceBEq, Nat.reduceBNe, reduceIte, reduceDIte, reduceCtorEq]; rfl) ?_ ?_ -- R3
    · trivial
    refine k_seq ?_
    refine r_ret ?_
    refine k_seq_ret ?_
    refine ⟨[], ?_⟩
    simp only [hT, tab14, mr0, mr1, mr2, Nat.reduceLT, Nat.reduceEqDiff, Nat.reduceAdd, Nat.reduceMul, Nat.reduceSub, Nat.reduceLeDiff, Nat.reduceBEq, Nat.reduceBNe, reduceIte, reduceDIte, reduceCtorEq]
    exact divT_bad hb0
  · intro hb0
    try simp only [decide_eq_true_eq, decide_eq_false_iff_not, beq_eq_false_iff_ne, bne_eq_false_iff_eq, Bool.not_eq_false', Bool.and_eq_false_imp] at hb0
    refine r_skip ?_
    refine k_seq ?_
    refine r_seq ?_
    refine r_seq ?_
    refine r_region hG (by simp only [hT, tab14, cReads, cSign, cDivW, cText, mx0, mx1, mx2, mx3, mx4, mx5, effOp, endCall, callOp, appendOp, sliceLV, Ty.fieldTy, Ty.fieldOf, Nat.reduceLT, Nat.reduceEqDiff, Nat.reduceAdd, Nat.reduceMul, Nat.reduceSub, Nat.reduceLeDiff, Nat.reduceBEq, Nat.reduceBNe, reduceIte, reduceDIte, reduceCtorEq]; rfl) ?_ ?_ -- R4
    · try simp only [and_true, true_and]
      have h := cmp_side hb0
      exact ⟨h.2.1, h.2.2.2.1⟩
    refine k_seq ?_
    refine r_cond (by simp only [hT, tab14, mx0, mx1, mx2, mx3, mx4, mx5, effOp, endCall, callOp, appendOp, sliceLV, Ty.fieldTy, Ty.fieldOf, Nat.reduceLT, Nat.reduceEqDiff, Nat.reduceAdd, Nat.reduceMul, Nat.reduceSub, Nat.reduceLeDiff, Nat.reduceBEq, Nat.reduceBNe, reduceIte, reduceDIte, reduceCtorEq]; rfl) ?_ ?_
    · intro hb1
      try simp only [decide_eq_true_eq, decide_eq_false_iff_not, beq_iff_eq, bne_iff_ne, Bool.not_eq_true', Bool.and_eq_true] at hb1
      refine r_seq ?_
      refine r_region hG (by simp only [hT, tab14, cReads, cSign, cDivW, cText, mx0, mx1, mx2, mx3, mx4, mx5, effOp, endCall, callOp, appendOp, sliceLV, Ty.fieldTy, Ty.fieldOf, Nat.reduceLT, Nat.reduceEqDiff, Nat.reduceAdd, Nat.reduceMul, Nat.reduceSub, Nat.reduceLeDiff, Nat.reduceBEq, Nat.reduceBNe, reduceIte, reduceDIte, reduceCtorEq]; rfl) ?_ ?_ -- R5
      · trivial
      refine k_seq ?_
      refine r_ret ?_
      refine k_seq_ret ?_
      refine ⟨[], ?_⟩
      simp only [hT, tab14, mr0, mr1, mr2, Nat.reduceLT, Nat.reduceEqDiff, Nat.reduceAdd, Nat.reduceMul, Nat.reduceSub, Nat.reduceLeDiff, Nat.reduceBEq, Nat.reduceBNe, reduceIte, reduceDIte, reduceCtorEq]
      exact divT_zero hb0 hb1
    · intro hb1
      try simp only [decide_eq_true_eq, decide_eq_false_iff_not, beq_eq_false_iff_ne, bne_eq_false_iff_eq, Bool.not_eq_false', Bool.and_eq_false_imp] at hb1
      refine r_skip ?_
      refine k_seq ?_
      refine r_seq ?_
      refine r_draw hG (by simp only [hT, mt0, tab14, cReads, cSign, cDivW, cText, mx0, mx1, mx2, mx3, mx4, mx5, effOp, endCall, callOp, appendOp, sliceLV, Ty.fieldTy, Ty.fieldOf, Nat.reduceLT, Nat.reduceEqDiff, Nat.reduceAdd, Nat.reduceMul, Nat.reduceSub, Nat.reduceLeDiff, Nat.reduceBEq, Nat.reduceBNe, reduceIte, reduceDIte, reduceCtorEq]; rfl) (by kernel_rfl) (by rfl) (by rfl) ?_ ?_ -- R6
      · try simp only [and_true, true_and]
        have h := cmp_side hb0
        exact ⟨h.1, h.2.1, divT_pre hb0 hb1⟩
      refine k_seq ?_
      refine r_seq ?_
      refine r_draw hG (by simp only [hT, mt0, tab14, cReads, cSign, cDivW, cText, mx0, mx1, mx2, mx3, mx4, mx5, effOp, endCall, callOp, appendOp, sliceLV, Ty.fieldTy, Ty.fieldOf, Nat.reduceLT, Nat.reduceEqDiff, Nat.reduceAdd, Nat.reduceMul, Nat.reduceSub, Nat.reduceLeDiff, Nat.reduceBEq, Nat.reduceBNe, reduceIte, reduceDIte, reduceCtorEq]; rfl) (by kernel_rfl) (by rfl) (by rfl) ?_ ?_ -- R7
      · try simp only [and_true, true_and]
        exact divT_wok (divT_pre hb0 hb1)
      refine k_seq ?_
      refine r_ret ?_
      refine ⟨[], ?_⟩
      simp only [hT, tab14, mr0, mr1, mr2, Nat.reduceLT, Nat.reduceEqDiff, Nat.reduceAdd, Nat.reduceMul, Nat.reduceSub, Nat.reduceLeDiff, Nat.reduceBEq, Nat.reduceBNe, reduceIte, reduceDIte, reduceCtorEq]
      exact divT_fin hb0 hb1

def tab24 (B : Base) : Tab := { types := [(9, .str), (27, (.int .i64))], elems := [], cons := [(14, cDivT)], hint := [], N := 31, base := B }
theorem good24 {B : Base} (hB : Tabs B) : MGood Tryd.prog (tab24 B) := ⟨⟨types_cons ty9 (types_cons ty27 (types_nil)), elems_nil, by simp only [tab24, ioB]; omega⟩, cons_ok (cals_cons (cal_ok Tryd.func14 (by kernel_rfl) rfl (valid14 hB)) (cals_nil)), by kernel_rfl⟩
def cDivides : Con := fun l os => match l, os with
  | [.z .str a, .z .str b, .z .str q, .z .str r], [] => some (Short a ∧ Short b, [.z .bool (((divV1 a b == q) && (divV2 a b == r)) && (divVE a b == 0))], [])
  | _, _ => none

theorem valid24 {B : Base} (hB : Tabs B) : Valid B Tryd.prog 24 cDivides := by
  refine valid_of_J (T := tab24 B) (good24 hB).tab Tryd.func24 rfl rfl rfl ?_
  intro args os C rs os' hc hC
  unfold cDivides at hc
  split at hc
  case h_2 => cases hc
  rename_i a b q r
  cases hc
  refine ⟨by simp only [List.length_cons, List.length_nil, tab24]; omega, rfl, ?_⟩
  intro X hP hT hr
  have hG : MGood X.P X.T := by rw [hP, hT]; exact good24 hB
  simp only [Tryd.f24, argEnv, ioList, ioB]
  refine r_seq ?_
  refine r_region hG (by simp only [hT, tab24, cDivT, mx0, mx1, mx2, mx3, mx4, mx5, effOp, endCall, callOp, appendOp, sliceLV, Ty.fieldTy, Ty.fieldOf, Nat.reduceLT, Nat.reduceEqDiff, Nat.reduceAdd, Nat.reduceMul, Nat.reduceSub, Nat.reduceLeDiff, Nat.reduceBEq, Nat.reduceBNe, reduceIte, reduceDIte, reduceCtorEq]; rfl) ?_ ?_ -- R0
  · trivial
  refine k_seq ?_
  refine r_seq ?_
  refine r_region hG (by simp only [hT, tab24, cDivT, mx0, mx1, mx2, mx3, mx4, mx5, effOp, endCall, callOp, appendOp, sliceLV, Ty.fieldTy, Ty.fieldOf, Nat.reduceLT, Nat.reduceEqDiff, Nat.reduceAdd, Nat.reduceMul, Nat.reduceSub, Nat.reduceLeDiff, Nat.reduceBEq, Nat.reduceBNe, reduceIte, reduceDIte, reduceCtorEq]; rfl) ?_ ?_ -- R1
  · try simp only [and_true, true_and]
    exact hC
  refine k_seq ?_
  refine r_seq ?_
  refine r_region hG (by simp only [hT, tab24, cDivT, mx0, mx1, mx2, mx3, mx4, mx5, effOp, endCall, callOp, appendOp, sliceLV, Ty.fieldTy, Ty.fieldOf, Nat.reduceLT, Nat.reduceEqDiff, Nat.reduceAdd, Nat.reduceMul, Nat.reduceSub, Nat.reduceLeDiff, Nat.reduceBEq, Nat.reduceBNe, reduceIte, reduceDIte, reduceCtorEq]; rfl) ?_ ?_ -- R2
  · try simp only [and_true, true_and]
    (repeat' (first | apply And.intro | intro _)) <;> (try simp only [decide_eq_true_eq, decide_eq_false_iff_not, Bool.not_eq_true', beq_iff_eq, Int.toNat_natCast] at *) <;> first | assumption | omega | trivial | (simp_all; done) | (simp_all; omega)
  refine k_seq ?_
  refine r_ret ?_
  refine ⟨[], ?_⟩
  simp only [hT, tab24, mr0, mr1, mr2, Nat.reduceLT, Nat.reduceEqDiff, Nat.reduceAdd, Nat.reduceMul, Nat.reduceSub, Nat.reduceLeDiff, Nat.reduceBEq, Nat.reduceBNe, reduceIte, reduceDIte, reduceCtorEq]
  skip

end Go.Proofs.YtkgbdpmhdplddaaDoor
end

section
/- The functions of the package exact, one after the other: each meets its contract. -/
set_option linter.unusedSimpArgs false
set_option linter.unusedVariables false
set_option maxRecDepth 100000
namespace Go.Proofs.YtkgbdpmhdplddaaDoor
open Go Go.Cm Go.Proofs

def tab46 (B : Base) : Tab := { types := [(3, (.int .i64)), (55, (.st (.pair .bool (.slice (.int .u32))))), (56, (.slice (.st (.pair .bool (.slice (.int .u32))))))], elems := [], cons := [(27, cMul), (47, cDigits)], hint := [], N := 11, base := B }
theorem good46 {B : Base} (hB : Tabs B) : MGood Tryd.prog (tab46 B) := ⟨⟨types_cons ty3 (types_cons ty55 (types_cons ty56 (types_nil))), elems_nil, by simp only [tab46, ioB]; omega⟩, cons_ok (cals_cons (cal_ok Tryd.func27 (by kernel_rfl) rfl (valid27 hB)) (cals_cons (cal_ok Tryd.func47 (by kernel_rfl) rfl (valid47 hB)) (cals_nil))), by kernel_rfl⟩
def cPowF : Con := fun l os => match l, os with
  | [.ownP 10000000 0, .ownP 10000001 0], [.box 55 [.z .bool s, .z (.slice (.int .u32)) m], .box 56 [.z (.slice (.st (.pair .bool (.slice (.int .u32))))) l]] => some (WOK (s, m) ∧ 0 < l.length ∧ WOK (nth WT l 0) ∧ m.length ≤ 300 ∧ (nth WT l 0).2.length ≤ 300, [.z .bool (decide (ndig (dec (s, m) * dec (nth WT l 0)) ≤ 2000))], [.box 55 [.z .bool (enc (dec (s, m) * dec (nth WT l 0))).1, .z (.slice (.int .u32)) (enc (dec (s, m) * dec (nth WT l 0))).2], .box 56 [.z (.slice (.st (.pair .bool (.slice (.int .u32))))) l]])
  | _, _ => none

theorem valid46 {B : Base} (hB : Tabs B) : Valid B Tryd.prog 46 cPowF := by
  refine valid_of_J (T := tab46 B) (good46 hB).tab Tryd.func46 rfl rfl rfl ?_
  intro args os C rs os' hc hC
  unfold cPowF at hc
  split at hc
  case h_2 => cases hc
  rename_i s m l
  cases hc
  refine ⟨by simp only [List.length_cons, List.length_nil, tab46]; omega, rfl, ?_⟩
  intro X hP hT hr
  have hG : MGood X.P X.T := by rw [hP, hT]; exact good46 hB
  simp only [Tryd.f46, argEnv, ioList, ioB]
  refine r_seq ?_
  refine r_region hG (by simp only [hT, tab46, cMul, cDigits, mx0, mx1, mx2, mx3, mx4, mx5, effOp, endCall, callOp, appendOp, sliceLV, Ty.fieldTy, Ty.fieldOf, Nat.reduceLT, Nat.reduceEqDiff, Nat.reduceAdd, Nat.reduceMul, Nat.reduceSub, Nat.reduceLeDiff, Nat.reduceBEq, Nat.reduceBNe, reduceIte, reduceDIte, reduceCtorEq]; rfl) ?_ ?_ -- R0
  · trivial
  refine k_seq ?_
  refine r_seq ?_
  refine r_draw hG (by simp only [hT, mt0, tab46, cMul, cDigits, mx0, mx1, mx2, mx3, mx4, mx5, effOp, endCall, callOp, appendOp, sliceLV, Ty.fieldTy, Ty.fieldOf, Nat.reduceLT, Nat.reduceEqDiff, Nat.reduceAdd, Nat.reduceMul, Nat.reduceSub, Nat.reduceLeDiff, Nat.reduceBEq, Nat.reduceBNe, reduceIte, reduceDIte, reduceCtorEq]; rfl) (by kernel_rfl) (by rfl) (by rfl) ?_ ?_ -- R1
  · try simp only [and_true, true_and]
    obtain ⟨c1, c2, c3, c4, c5⟩ := hC
    exact ⟨⟨by decide, Int.natCast_pos.2 c2⟩, c1, c3, Nat.lt_of_le_of_lt (Nat.add_le_add c4 c5) (by decide)⟩
  refine k_seq ?_
  refine r_seq ?_
  refine r_region hG (by simp only [hT, tab46, cMul, cDigits, mx0, mx1, mx2, mx3, mx4, mx5, effOp, endCall, callOp, appendOp, sliceLV, Ty.fieldTy, Ty.fieldOf, Nat.reduceLT, Nat.reduceEqDiff, Nat.reduceAdd, Nat.reduceMul, Nat.reduceSub, Nat.reduceLeDiff, Nat.reduceBEq, Nat.reduceBNe, reduceIte, reduceDIte, reduceCtorEq]; rfl) ?_ ?_ -- R2
  · try simp only [and_true, true_and]
    obtain ⟨c1, c2, c3, c4, c5⟩ := hC
    exact ⟨enc_ok _, Nat.lt_of_le_of_lt (mul_len c1 c3 c4 c5) (by decide)⟩
  refine k_seq ?_
  refine r_ret ?_
  refine ⟨[], ?_⟩
  simp only [hT, tab46, mr0, mr1, mr2, Nat.reduceLT, Nat.reduceEqDiff, Nat.reduceAdd, Nat.reduceMul, Nat.reduceSub, Nat.reduceLeDiff, Nat.reduceBEq, Nat.reduceBNe, reduceIte, reduceDIte, reduceCtorEq]
  rw [show ∀ n : Int, dec ((enc n).1, (enc n).2) = n from dec_enc]

end Go.Proofs.YtkgbdpmhdplddaaDoor
end

section
/- The functions of the package exact, one after the other: each meets its contract. -/
set_option linter.unusedSimpArgs false
set_option linter.unusedVariables false
set_option maxRecDepth 100000
namespace Go.Proofs.YtkgbdpmhdplddaaDoor
open Go Go.Cm Go.Proofs

def tab23 (B : Base) : Tab := { types := [(3, (.int .i64)), (27, (.int .i64)), (55, (.st (.pair .bool (.slice (.int .u32))))), (56, (.slice (.st (.pair .bool (.slice (.int .u32)))))), (85, (.slice .str))], elems := [(85, 9)], cons := [(27, cMul), (30, cReads), (34, cCmp), (37, cSmall), (46, cPowF), (48, cTold)], hint := [], N := 57, base := B }
theorem good23 {B : Base} (hB : Tabs B) : MGood Tryd.prog (tab23 B) := ⟨⟨types_cons ty3 (types_cons ty27 (types_cons ty55 (types_cons ty56 (types_cons ty85 (types_nil))))), elems_cons (by kernel_rfl) (elems_nil), by simp only [tab23, ioB]; omega⟩, cons_ok (cals_cons (cal_ok Tryd.func27 (by kernel_rfl) rfl (valid27 hB)) (cals_cons (cal_ok Tryd.func30 (by kernel_rfl) rfl (valid30 hB)) (cals_cons (cal_ok Tryd.func34 (by kernel_rfl) rfl (valid34 hB)) (cals_cons (cal_ok Tryd.func37 (by kernel_rfl) rfl (valid37 hB)) (cals_cons (cal_ok Tryd.func46 (by kernel_rfl) rfl (valid46 hB)) (cals_cons (cal_ok Tryd.func48 (by kernel_rfl) rfl (valid48 hB)) (cals_nil))))))), by kernel_rfl⟩
def cPow : Con := fun l os => match l, os with
  | [.z .str s, .z (.int .i64) n], [] => some (Short s ∧ I64 n, [.z .str (powV s n), .z (.int .i64) (powE s n)], [])
  | _, _ => none

theorem valid23 {B : Base} (hB : Tabs B) : Valid B Tryd.prog 23 cPow := by
  refine valid_of_J (T := tab23 B) (good23 hB).tab Tryd.func23 rfl rfl rfl ?_
  intro args os C rs os' hc hC
  unfold cPow at hc
  split at hc
  case h_2 => cases hc
  rename_i s n
  cases hc
  refine ⟨by simp only [List.length_cons, List.length_nil, tab23]; omega, rfl, ?_⟩
  intro X hP hT hr
  have hG : MGood X.P X.T := by rw [hP, hT]; exact good23 hB
  simp only [Tryd.f23, argEnv, ioList, ioB]
  refine r_seq ?_
  refine r_region hG (by simp only [hT, tab23, cReads, cSmall, cMul, cCmp, cPowF, cTold, mx0, mx1, mx2, mx3, mx4, mx5, effOp, endCall, callOp, appendOp, sliceLV, Ty.fieldTy, Ty.fieldOf, Nat.reduceLT, Nat.reduceEqDiff, Nat.reduceAdd, Nat.reduceMul, Nat.reduceSub, Nat.reduceLeDiff, Nat.reduceBEq, Nat.reduceBNe, reduceIte, reduceDIte, reduceCtorEq]; rfl) ?_ ?_ -- R0
  · trivial
  refine k_seq ?_
  refine r_seq ?_
  refine r_region hG (by simp only [hT, tab23, cReads, cSmall, cMul, cCmp, cPowF, cTold, mx0, mx1, mx2, mx3, mx4, mx5, effOp, endCall, callOp, appendOp, sliceLV, Ty.fieldTy, Ty.fieldOf, Nat.reduceLT, Nat.reduceEqDiff, Nat.reduceAdd, Nat.reduceMul, Nat.reduceSub, Nat.reduceLeDiff, Nat.reduceBEq, Nat.reduceBNe, reduceIte, reduceDIte, reduceCtorEq]; rfl) ?_ ?_ -- R1
  · try simp only [and_true, true_and]
    exact shorts1 hC.1
  refine k_seq ?_
  refine r_seq ?_
  refine r_seq ?_
  refine r_region hG (by simp only [hT, tab23, cReads, cSmall, cMul, cCmp, cPowF, cTold, mx0, mx1, mx2, mx3, mx4, mx5, effOp, endCall, callOp, appendOp, sliceLV, Ty.fieldTy, Ty.fieldOf, Nat.reduceLT, Nat.reduceEqDiff, Nat.reduceAdd, Nat.reduceMul, Nat.reduceSub, Nat.reduceLeDiff, Nat.reduceBEq, Nat.reduceBNe, reduceIte, reduceDIte, reduceCtorEq]; rfl) ?_ ?_ -- R2
  · trivial
  refine k_seq ?_
  refine r_cond (by simp only [hT, tab23, mx0, mx1, mx2, mx3, mx4, mx5, effOp, endCall, callOp, appendOp, sliceLV, Ty.fieldTy, Ty.fieldOf, Nat.reduceLT, Nat.reduceEqDiff, Nat.reduceAdd, Nat.reduceMul, Nat.reduceSub, Nat.reduceLeDiff, Nat.reduceBEq, Nat.reduceBNe, reduceIte, reduceDIte, reduceCtorEq]; rfl) ?_ ?_
  · intro hb0
    try simp only [decide_eq_true_eq, decide_eq_false_iff_not, beq_iff_eq, bne_iff_ne, Bool.not_eq_true', Bool.and_eq_true] at hb0
    refine r_seq ?_
    refine r_region hG (by simp only [hT, tab23, cReads, cSmall, cMul, cCmp, cPowF, cTold, mx0, mx1, mx2, mx3, mx4, mx5, effOp, endCall, callOp, appendOp, sliceLV, Ty.fieldTy, Ty.fieldOf, Nat.reduceLT, Nat.reduceEqDiff, Nat.reduceAdd, Nat.reduceMul, Nat.reduceSub, Nat.reduceLeDiff, Nat.reduceBEq, Nat.reduceBNe, reduceIte, reduceDIte, reduceCtorEq]; rfl) ?_ ?_ -- R3
    · trivial
    refine k_seq ?_
    refine r_ret ?_
    refine k_seq_ret ?_
    refine ⟨[], ?_⟩
    simp only [hT, tab23, mr0, mr1, mr2, Nat.reduceLT, Nat.reduceEqDiff, Nat.reduceAdd, Nat.reduceMul, Nat.reduceSub, Nat.reduceLeDiff, Nat.reduceBEq, Nat.reduceBNe, reduceIte, reduceDIte, reduceCtorEq]
    exact pow_bad hb0
  · intro hb0
    try simp only [decide_eq_false_iff_not, beq_eq_false_iff_ne, bne_eq_false_iff_eq] at hb0
    obtain ⟨r1, r2, r3, r4⟩ := read1 hb0
    have hI := I64.b hC.2
    refine r_skip ?_
    refine k_seq ?_
    refine r_seq ?_
    refine r_seq ?_
    refine r_region hG (by simp only [hT, tab23, cReads, cSmall, cMul, cCmp, cPowF, cTold, mx0, mx1, mx2, mx3, mx4, mx5, effOp, endCall, callOp, appendOp, sliceLV, Ty.fieldTy, Ty.fieldOf, Nat.reduceLT, Nat.reduceEqDiff, Nat.reduceAdd, Nat.reduceMul, Nat.reduceSub, Nat.reduceLeDiff, Nat.reduceBEq, Nat.reduceBNe, reduceIte, reduceDIte, reduceCtorEq]; rfl) ?_ ?_ -- R4
    · try simp only [and_true, true_and]
      exact ⟨fun h => h, fun h => by rw [h]; rfl⟩
    refine k_seq ?_
    refine r_cond (by simp only [hT, tab23, mx0, mx1, mx2, mx3, mx4, mx5, effOp, endCall, callOp, appendOp, sliceLV, Ty.fieldTy, Ty.fieldOf, Nat.reduceLT, Nat.reduceEqDiff, Nat.reduceAdd, Nat.reduceMul, Nat.reduceSub, Nat.reduceLeDiff, Nat.reduceBEq, Nat.reduceBNe, reduceIte, reduceDIte, reduceCtorEq]; rfl) ?_ ?_
    · intro hb1
      have hnn : n < 0 ∨ 10000 < n := by simpa using hb1
      refine r_seq ?_
      refine r_region hG (by simp only [hT, tab23, cReads, cSmall, cMul, cCmp, cPowF, cTold, mx0, mx1, mx2, mx3, mx4, mx5, effOp, endCall, callOp, appendOp, sliceLV, Ty.fieldTy, Ty.fieldOf, Nat.reduceLT, Nat.reduceEqDiff, Nat.reduceAdd, Nat.reduceMul, Nat.reduceSub, Nat.reduceLeDiff, Nat.reduceBEq, Nat.reduceBNe, reduceIte, reduceDIte, reduceCtorEq]; rfl) ?_ ?_ -- R5
      · trivial
      refine k_seq ?_
      refine r_ret ?_
      refine k_seq_ret ?_
      refine ⟨[], ?_⟩
      simp only [hT, tab23, mr0, mr1, mr2, Nat.reduceLT, Nat.reduceEqDiff, Nat.reduceAdd, Nat.reduceMul, Nat.reduceSub, Nat.reduceLeDiff, Nat.reduceBEq, Nat.reduceBNe, reduceIte, reduceDIte, reduceCtorEq]
      exact pow_out r1 hnn
    · intro hb1
      have hnn : ¬ (n < 0 ∨ 10000 < n) := by simpa using hb1
      have hin := pow_in hnn
      refine r_skip ?_
      refine k_seq ?_
      refine r_seq ?_
      refine r_region hG (by simp only [hT, tab23, cReads, cSmall, cMul, cCmp, cPowF, cTold, mx0, mx1, mx2, mx3, mx4, mx5, effOp, endCall, callOp, appendOp, sliceLV, Ty.fieldTy, Ty.fieldOf, Nat.reduceLT, Nat.reduceEqDiff, Nat.reduceAdd, Nat.reduceMul, Nat.reduceSub, Nat.reduceLeDiff, Nat.reduceBEq, Nat.reduceBNe, reduceIte, reduceDIte, reduceCtorEq]; rfl) ?_ ?_ -- R6
      · try simp only [and_true, true_and]
        unfold I64; omega
      refine k_seq ?_
      refine r_cut (fun (z : Int) => (⟨[(6, .l (.ownP 6 0)), (1, .l (.z (.int .i64) z)), (8, .l (.ownP 8 0))], [(6, .box 56 [.z (.slice (.st (.pair .bool (.slice (.int .u32))))) (readAll [s])]), (8, .box 55 [.z .bool (enc 1).1, .z (.slice (.int .u32)) (enc 1).2])]⟩ : AState)) (fun z => z = powN (numI s) n) ?_ ?_
      · refine r_seq ?_
        refine r_draw hG (by simp only [hT, mt0, tab23, cReads, cSmall, cMul, cCmp, cPowF, cTold, mx0, mx1, mx2, mx3, mx4, mx5, effOp, endCall, callOp, appendOp, sliceLV, Ty.fieldTy, Ty.fieldOf, Nat.reduceLT, Nat.reduceEqDiff, Nat.reduceAdd, Nat.reduceMul, Nat.reduceSub, Nat.reduceLeDiff, Nat.reduceBEq, Nat.reduceBNe, reduceIte, reduceDIte, reduceCtorEq]; rfl) (by kernel_rfl) (by rfl) (by rfl) ?_ ?_ -- R7
        · try simp only [and_true, true_and]
          rw [r3]
          exact ⟨⟨by omega, r2⟩, ⟨by omega, r2⟩, enc_ok _, enc_ok _, by unfold CAP; omega⟩
        refine k_seq ?_
        refine r_seq ?_
        refine r_region hG (by simp only [hT, tab23, cReads, cSmall, cMul, cCmp, cPowF, cTold, mx0, mx1, mx2, mx3, mx4, mx5, effOp, endCall, callOp, appendOp, sliceLV, Ty.fieldTy, Ty.fieldOf, Nat.reduceLT, Nat.reduceEqDiff, Nat.reduceAdd, Nat.reduceMul, Nat.reduceSub, Nat.reduceLeDiff, Nat.reduceBEq, Nat.reduceBNe, reduceIte, reduceDIte, reduceCtorEq]; rfl) ?_ ?_ -- R8
        · try simp only [and_true, true_and]
          rw [r3]
          have hm := mul_len (x := enc (numI s)) (y := enc (numI s)) (enc_ok _) (enc_ok _) (by omega) (by omega)
          have h1 := enc_small (n := 1) (by unfold I64; omega)
          exact ⟨enc_ok _, enc_ok _, by unfold CAP; omega⟩
        refine k_seq ?_
        refine r_cond (by simp only [hT, tab23, mx0, mx1, mx2, mx3, mx4, mx5, effOp, endCall, callOp, appendOp, sliceLV, Ty.fieldTy, Ty.fieldOf, Nat.reduceLT, Nat.reduceEqDiff, Nat.reduceAdd, Nat.reduceMul, Nat.reduceSub, Nat.reduceLeDiff, Nat.reduceBEq, Nat.reduceBNe, reduceIte, reduceDIte, reduceCtorEq]; rfl) ?_ ?_
        · intro hb2
          try simp only [decide_eq_true_eq, decide_eq_false_iff_not, beq_iff_eq, bne_iff_ne, Bool.not_eq_true', Bool.and_eq_true] at hb2
          refine r_region hG (by simp only [hT, tab23, cReads, cSmall, cMul, cCmp, cPowF, cTold, mx0, mx1, mx2, mx3, mx4, mx5, effOp, endCall, callOp, appendOp, sliceLV, Ty.fieldTy, Ty.fieldOf, Nat.reduceLT, Nat.reduceEqDiff, Nat.reduceAdd, Nat.reduceMul, Nat.reduceSub, Nat.reduceLeDiff, Nat.reduceBEq, Nat.reduceBNe, reduceIte, reduceDIte, reduceCtorEq]; rfl) ?_ ?_ -- R9
          · try simp only [and_true, true_and]
            decide
          show ∃ z, _
          simp only [ml0, ml1, Nat.reduceLT, Nat.reduceEqDiff, Nat.reduceAdd, Nat.reduceMul, Nat.reduceSub, Nat.reduceLeDiff, Nat.reduceBEq, Nat.reduceBNe, reduceIte, reduceDIte, reduceCtorEq]
          first | (have h2 := (pow_cond (y := nth WT (readAll [s]) 0) r3).1 hb2; unfold powN; rw [if_pos h2, wi (by have := Int.tmod_lt_of_pos n (show (0 : Int) < 2 by decide); have := Int.lt_tmod_of_pos n (show (0 : Int) < 2 by decide); omega) (by have := Int.tmod_lt_of_pos n (show (0 : Int) < 2 by decide); have := Int.lt_tmod_of_pos n (show (0 : Int) < 2 by decide); omega)]) | (unfold powN; rw [if_neg (fun h => hb2 ((pow_cond (y := nth WT (readAll [s]) 0) r3).2 h))])
        · intro hb2
          try simp only [decide_eq_true_eq, decide_eq_false_iff_not, beq_eq_false_iff_ne, bne_eq_false_iff_eq, Bool.not_eq_false', Bool.and_eq_false_imp] at hb2
          refine r_skip ?_
          show ∃ z, _
          simp only [ml0, ml1, Nat.reduceLT, Nat.reduceEqDiff, Nat.reduceAdd, Nat.reduceMul, Nat.reduceSub, Nat.reduceLeDiff, Nat.reduceBEq, Nat.reduceBNe, reduceIte, reduceDIte, reduceCtorEq]
          first | (have h2 := (pow_cond (y := nth WT (readAll [s]) 0) r3).1 hb2; unfold powN; rw [if_pos h2, wi (by have := Int.tmod_lt_of_pos n (show (0 : Int) < 2 by decide); have := Int.lt_tmod_of_pos n (show (0 : Int) < 2 by decide); omega) (by have := Int.tmod_lt_of_pos n (show (0 : Int) < 2 by decide); have := Int.lt_tmod_of_pos n (show (0 : Int) < 2 by decide); omega)]) | (unfold powN; rw [if_neg (fun h => hb2 ((pow_cond (y := nth WT (readAll [s]) 0) r3).2 h))])
      rintro nn hn
      try dsimp only at hn
      subst hn
      refine r_seq ?_
      refine r_region hG (by simp only [hT, tab23, cReads, cSmall, cMul, cCmp, cPowF, cTold, mx0, mx1, mx2, mx3, mx4, mx5, effOp, endCall, callOp, appendOp, sliceLV, Ty.fieldTy, Ty.fieldOf, Nat.reduceLT, Nat.reduceEqDiff, Nat.reduceAdd, Nat.reduceMul, Nat.reduceSub, Nat.reduceLeDiff, Nat.reduceBEq, Nat.reduceBNe, reduceIte, reduceDIte, reduceCtorEq]; rfl) ?_ ?_ -- R10
      · trivial
      refine k_seq ?_
      refine r_seq ?_
      refine r_region hG (by simp only [hT, tab23, cReads, cSmall, cMul, cCmp, cPowF, cTold, mx0, mx1, mx2, mx3, mx4, mx5, effOp, endCall, callOp, appendOp, sliceLV, Ty.fieldTy, Ty.fieldOf, Nat.reduceLT, Nat.reduceEqDiff, Nat.reduceAdd, Nat.reduceMul, Nat.reduceSub, Nat.reduceLeDiff, Nat.reduceBEq, Nat.reduceBNe, reduceIte, reduceDIte, reduceCtorEq]; rfl) ?_ ?_ -- R11
      · trivial
      refine k_seq ?_
      refine r_seq ?_
      refine r_seq ?_
      refine r_region hG (by simp only [hT, tab23, cReads, cSmall, cMul, cCmp, cPowF, cTold, mx0, mx1, mx2, mx3, mx4, mx5, effOp, endCall, callOp, appendOp, sliceLV, Ty.fieldTy, Ty.fieldOf, Nat.reduceLT, Nat.reduceEqDiff, Nat.reduceAdd, Nat.reduceMul, Nat.reduceSub, Nat.reduceLeDiff, Nat.reduceBEq, Nat.reduceBNe, reduceIte, reduceDIte, reduceCtorEq]; rfl) ?_ ?_ -- R12
      · trivial
      refine k_seq ?_
      refine j_block ?_
      refine j_loop (fun (z : Nat × Int) => (⟨[(6, .l (.ownP 6 0)), (10, .l (.ownP 10 0)), (11, .l (.fn 46 [.p 10, .p 6])), (46, .l (.z (.int .i64) (powN (numI s) n))), (47, .l (.z (.int .i64) (z.1 : Int)))], [(6, .box 56 [.z (.slice (.st (.pair .bool (.slice (.int .u32))))) (readAll [s])]), (10, .box 55 [.z .bool (enc z.2).1, .z (.slice (.int .u32)) (enc z.2).2])]⟩ : AState)) (fun z => PowPhi s n z.1 z.2) (fun z => (powN (numI s) n).toNat - z.1) (0, 1) ?_ ?_ ?_
      · simp only [ml0, ml1, Nat.reduceLT, Nat.reduceEqDiff, Nat.reduceAdd, Nat.reduceMul, Nat.reduceSub, Nat.reduceLeDiff, Nat.reduceBEq, Nat.reduceBNe, reduceIte, reduceDIte, reduceCtorEq]
        rfl
      · exact pow_start (by omega)
      · rintro ⟨k, p⟩ hz
        try dsimp only at hz
        have hzl := ndig_len hz.hd
        refine r_seq ?_
        refine r_region hG (by simp only [hT, tab23, cReads, cSmall, cMul, cCmp, cPowF, cTold, mx0, mx1, mx2, mx3, mx4, mx5, effOp, endCall, callOp, appendOp, sliceLV, Ty.fieldTy, Ty.fieldOf, Nat.reduceLT, Nat.reduceEqDiff, Nat.reduceAdd, Nat.reduceMul, Nat.reduceSub, Nat.reduceLeDiff, Nat.reduceBEq, Nat.reduceBNe, reduceIte, reduceDIte, reduceCtorEq]; rfl) ?_ ?_ -- R13
        · trivial
        refine k_seq ?_
        refine r_seq ?_
        refine r_cond (by simp only [hT, tab23, mx0, mx1, mx2, mx3, mx4, mx5, effOp, endCall, callOp, appendOp, sliceLV, Ty.fieldTy, Ty.fieldOf, Nat.reduceLT, Nat.reduceEqDiff, Nat.reduceAdd, Nat.reduceMul, Nat.reduceSub, Nat.reduceLeDiff, Nat.reduceBEq, Nat.reduceBNe, reduceIte, reduceDIte, reduceCtorEq]; rfl) ?_ ?_
        · intro hb3
          try simp only [decide_eq_true_eq] at hb3
          have hpn := powN_le (x := numI s) (n := n) (by omega)
          refine r_skip ?_
          refine k_seq ?_
          refine r_seq ?_
          refine j_block ?_
          refine r_seq ?_
          refine r_region hG (by simp only [hT, tab23, cReads, cSmall, cMul, cCmp, cPowF, cTold, mx0, mx1, mx2, mx3, mx4, mx5, effOp, endCall, callOp, appendOp, sliceLV, Ty.fieldTy, Ty.fieldOf, Nat.reduceLT, Nat.reduceEqDiff, Nat.reduceAdd, Nat.reduceMul, Nat.reduceSub, Nat.reduceLeDiff, Nat.reduceBEq, Nat.reduceBNe, reduceIte, reduceDIte, reduceCtorEq]; rfl) ?_ ?_ -- R14
          · try simp only [and_true, true_and]
            rw [r3]
            exact ⟨enc_ok p, Int.natCast_pos.1 r2, enc_ok _, by omega, by omega⟩
          refine k_seq ?_
          refine r_cond (by simp only [hT, tab23, mx0, mx1, mx2, mx3, mx4, mx5, effOp, endCall, callOp, appendOp, sliceLV, Ty.fieldTy, Ty.fieldOf, Nat.reduceLT, Nat.reduceEqDiff, Nat.reduceAdd, Nat.reduceMul, Nat.reduceSub, Nat.reduceLeDiff, Nat.reduceBEq, Nat.reduceBNe, reduceIte, reduceDIte, reduceCtorEq]; rfl) ?_ ?_
          · intro hb4
            try simp only [decide_eq_true_eq, decide_eq_false_iff_not, beq_iff_eq, bne_iff_ne, Bool.not_eq_true', Bool.and_eq_true] at hb4
            refine r_seq ?_
            refine r_region hG (by simp only [hT, tab23, cReads, cSmall, cMul, cCmp, cPowF, cTold, mx0, mx1, mx2, mx3, mx4, mx5, effOp, endCall, callOp, appendOp, sliceLV, Ty.fieldTy, Ty.fieldOf, Nat.reduceLT, Nat.reduceEqDiff, Nat.reduceAdd, Nat.reduceMul, Nat.reduceSub, Nat.reduceLeDiff, Nat.reduceBEq, Nat.reduceBNe, reduceIte, reduceDIte, reduceCtorEq]; rfl) ?_ ?_ -- R15
            · trivial
            refine k_seq ?_
            refine r_ret ?_
            refine k_block_ret ?_
            refine k_seq_ret ?_
            refine k_round_ret ?_
            refine k_block_ret ?_
            refine k_seq_ret ?_
            refine ⟨[], ?_⟩
            simp only [hT, tab23, mr0, mr1, mr2, Nat.reduceLT, Nat.reduceEqDiff, Nat.reduceAdd, Nat.reduceMul, Nat.reduceSub, Nat.reduceLeDiff, Nat.reduceBEq, Nat.reduceBNe, reduceIte, reduceDIte, reduceCtorEq]
            exact pow_long r1 hnn hz hb3 (by have h := hb4; rw [r3, dec_enc, dec_enc] at h; exact h)
          · intro hb4
            try simp only [decide_eq_true_eq, decide_eq_false_iff_not, beq_eq_false_iff_ne, bne_eq_false_iff_eq, Bool.not_eq_false', Bool.and_eq_false_imp] at hb4
            refine r_skip ?_
            refine k_block ?_
            refine k_seq ?_
            refine r_region hG (by simp only [hT, tab23, cReads, cSmall, cMul, cCmp, cPowF, cTold, mx0, mx1, mx2, mx3, mx4, mx5, effOp, endCall, callOp, appendOp, sliceLV, Ty.fieldTy, Ty.fieldOf, Nat.reduceLT, Nat.reduceEqDiff, Nat.reduceAdd, Nat.reduceMul, Nat.reduceSub, Nat.reduceLeDiff, Nat.reduceBEq, Nat.reduceBNe, reduceIte, reduceDIte, reduceCtorEq]; rfl) ?_ ?_ -- R16
            · trivial
            show ∃ z, _
            simp only [ml0, ml1, Nat.reduceLT, Nat.reduceEqDiff, Nat.reduceAdd, Nat.reduceMul, Nat.reduceSub, Nat.reduceLeDiff, Nat.reduceBEq, Nat.reduceBNe, reduceIte, reduceDIte, reduceCtorEq]
            have hb5 : ndig (p * numI s) ≤ 2000 := by have h := hb4; rw [r3, dec_enc, dec_enc] at h; exact h
            rw [r3, dec_enc, dec_enc]
            exact ⟨k + 1, by rw [wi (by omega) (by omega)]; simp, p * numI s, rfl, rfl, pow_next hz hb3 hb5, by omega⟩
        · intro hb3
          try simp only [decide_eq_true_eq, decide_eq_false_iff_not, beq_eq_false_iff_ne, bne_eq_false_iff_eq, Bool.not_eq_false', Bool.and_eq_false_imp] at hb3
          refine r_exit ?_
          refine k_seq_exit ?_
          refine k_round_exit ?_
          refine k_block_exit ?_
          refine k_seq ?_
          refine r_seq ?_
          refine r_region hG (by simp only [hT, tab23, cReads, cSmall, cMul, cCmp, cPowF, cTold, mx0, mx1, mx2, mx3, mx4, mx5, effOp, endCall, callOp, appendOp, sliceLV, Ty.fieldTy, Ty.fieldOf, Nat.reduceLT, Nat.reduceEqDiff, Nat.reduceAdd, Nat.reduceMul, Nat.reduceSub, Nat.reduceLeDiff, Nat.reduceBEq, Nat.reduceBNe, reduceIte, reduceDIte, reduceCtorEq]; rfl) ?_ ?_ -- R17
          · try simp only [and_true, true_and]
            exact ⟨enc_ok p, by have := ndig_len hz.hd; unfold CAP; omega⟩
          refine k_seq ?_
          refine r_ret ?_
          refine ⟨[], ?_⟩
          simp only [hT, tab23, mr0, mr1, mr2, Nat.reduceLT, Nat.reduceEqDiff, Nat.reduceAdd, Nat.reduceMul, Nat.reduceSub, Nat.reduceLeDiff, Nat.reduceBEq, Nat.reduceBNe, reduceIte, reduceDIte, reduceCtorEq]
          exact pow_done r1 hnn hz hb3

end Go.Proofs.YtkgbdpmhdplddaaDoor
end

section
/- The functions of the package exact, one after the other: each meets its contract. -/
set_option linter.unusedSimpArgs false
set_option linter.unusedVariables false
set_option maxRecDepth 100000
namespace Go.Proofs.YtkgbdpmhdplddaaDoor
open Go Go.Cm Go.Proofs

def tab8 (B : Base) : Tab := { types := [(3, (.int .i64)), (9, .str), (27, (.int .i64)), (48, (.arr 5 .str))], elems := [], cons := [(10, cAddT), (11, cMulT), (12, cIs), (13, cSubT), (14, cDivT), (15, cCmpT), (16, cGcdT), (19, cIntT), (20, cCheck), (22, cFails), (23, cPow), (24, cDivides), (28, cIsF), (45, cFailsF)], hint := [], N := 144, base := B }
theorem good8 {B : Base} (hB : Tabs B) : MGood Tryd.prog (tab8 B) := ⟨⟨types_cons ty3 (types_cons ty9 (types_cons ty27 (types_cons ty48 (types_nil)))), elems_nil, by simp only [tab8, ioB]; omega⟩, cons_ok (cals_cons (cal_ok Tryd.func10 (by kernel_rfl) rfl (valid10 hB)) (cals_cons (cal_ok Tryd.func11 (by kernel_rfl) rfl (valid11 hB)) (cals_cons (cal_ok Tryd.func12 (by kernel_rfl) rfl (valid12 hB)) (cals_cons (cal_ok Tryd.func13 (by kernel_rfl) rfl (valid13 hB)) (cals_cons (cal_ok Tryd.func14 (by kernel_rfl) rfl (valid14 hB)) (cals_cons (cal_ok Tryd.func15 (by kernel_rfl) rfl (valid15 hB)) (cals_cons (cal_ok Tryd.func16 (by kernel_rfl) rfl (valid16 hB)) (cals_cons (cal_ok Tryd.func19 (by kernel_rfl) rfl (valid19 hB)) (cals_cons (cal_ok Tryd.func20 (by kernel_rfl) rfl (valid20 hB)) (cals_cons (cal_ok Tryd.func22 (by kernel_rfl) rfl (valid22 hB)) (cals_cons (cal_ok Tryd.func23 (by kernel_rfl) rfl (valid23 hB)) (cals_cons (cal_ok Tryd.func24 (by kernel_rfl) rfl (valid24 hB)) (cals_cons (cal_ok Tryd.func28 (by kernel_rfl) rfl (valid28 hB)) (cals_cons (cal_ok Tryd.func45 (by kernel_rfl) rfl (valid45 hB)) (cals_nil))))))))))))))), by kernel_rfl⟩
def cWorks : Con := fun l os => match l, os with
  | [], [] => some (True, [.z .bool true], [])
  | _, _ => none

theorem valid8 {B : Base} (hB : Tabs B) : Valid B Tryd.prog 8 cWorks := by
  refine valid_of_J (T := tab8 B) (good8 hB).tab Tryd.func8 rfl rfl rfl ?_
  intro args os C rs os' hc hC
  unfold cWorks at hc
  split at hc
  case h_2 => cases hc
  cases hc
  refine ⟨by simp only [List.length_cons, List.length_nil, tab8]; omega, rfl, ?_⟩
  intro X hP hT hr
  have hG : MGood X.P X.T := by rw [hP, hT]; exact good8 hB
  simp only [Tryd.f8, argEnv, ioList, ioB]
  refine r_seq ?_
  refine r_region hG (by simp only [hT, tab8, cIntT, cDivT, cCmpT, cCheck, cIs, cAddT, cIsF, cSubT, cMulT, cGcdT, cPow, cFails, cFailsF, cDivides, mx0, mx1, mx2, mx3, mx4, mx5, effOp, endCall, callOp, appendOp, sliceLV, Ty.fieldTy, Ty.fieldOf, Nat.reduceLT, Nat.reduceEqDiff, Nat.reduceAdd, Nat.reduceMul, Nat.reduceSub, Nat.reduceLeDiff, Nat.reduceBEq, Nat.reduceBNe, reduceIte, reduceDIte, reduceCtorEq]; rfl) ?_ ?_ -- R0
  · trivial
  refine k_seq ?_
  refine r_seq ?_
  refine r_region hG (by simp only [hT, tab8, cIntT, cDivT, cCmpT, cCheck, cIs, cAddT, cIsF, cSubT, cMulT, cGcdT, cPow, cFails, cFailsF, cDivides, mx0, mx1, mx2, mx3, mx4, mx5, effOp, endCall, callOp, appendOp, sliceLV, Ty.fieldTy, Ty.fieldOf, Nat.reduceLT, Nat.reduceEqDiff, Nat.reduceAdd, Nat.reduceMul, Nat.reduceSub, Nat.reduceLeDiff, Nat.reduceBEq, Nat.reduceBNe, reduceIte, reduceDIte, reduceCtorEq]; rfl) ?_ ?_ -- R1
  · try simp only [and_true, true_and]
    simp only [Short, List.length_cons, List.length_nil]; decide
  refine k_seq ?_
  refine r_seq ?_
  refine r_region hG (by simp only [hT, tab8, cIntT, cDivT, cCmpT, cCheck, cIs, cAddT, cIsF, cSubT, cMulT, cGcdT, cPow, cFails, cFailsF, cDivides, mx0, mx1, mx2, mx3, mx4, mx5, effOp, endCall, callOp, appendOp, sliceLV, Ty.fieldTy, Ty.fieldOf, Nat.reduceLT, Nat.reduceEqDiff, Nat.reduceAdd, Nat.reduceMul, Nat.reduceSub, Nat.reduceLeDiff, Nat.reduceBEq, Nat.reduceBNe, reduceIte, reduceDIte, reduceCtorEq]; rfl) ?_ ?_ -- R2
  · try simp only [and_true, true_and]
    simp only [Short, List.length_cons, List.length_nil]; decide
  refine k_seq ?_
  refine r_seq ?_
  refine r_region hG (by simp only [hT, tab8, cIntT, cDivT, cCmpT, cCheck, cIs, cAddT, cIsF, cSubT, cMulT, cGcdT, cPow, cFails, cFailsF, cDivides, mx0, mx1, mx2, mx3, mx4, mx5, effOp, endCall, callOp, appendOp, sliceLV, Ty.fieldTy, Ty.fieldOf, Nat.reduceLT, Nat.reduceEqDiff, Nat.reduceAdd, Nat.reduceMul, Nat.reduceSub, Nat.reduceLeDiff, Nat.reduceBEq, Nat.reduceBNe, reduceIte, reduceDIte, reduceCtorEq]; rfl) ?_ ?_ -- R3
  · try simp only [and_true, true_and]
    simp only [Short, List.length_cons, List.length_nil]; decide
  refine k_seq ?_
  refine r_seq ?_
  refine r_region hG (by simp only [hT, tab8, cIntT, cDivT, cCmpT, cCheck, cIs, cAddT, cIsF, cSubT, cMulT, cGcdT, cPow, cFails, cFailsF, cDivides, mx0, mx1, mx2, mx3, mx4, mx5, effOp, endCall, callOp, appendOp, sliceLV, Ty.fieldTy, Ty.fieldOf, Nat.reduceLT, Nat.reduceEqDiff, Nat.reduceAdd, Nat.reduceMul, Nat.reduceSub, Nat.reduceLeDiff, Nat.reduceBEq, Nat.reduceBNe, reduceIte, reduceDIte, reduceCtorEq]; rfl) ?_ ?_ -- R4
  · try simp only [and_true, true_and]
    simp only [Short, List.length_cons, List.length_nil]; decide
  refine k_seq ?_
  refine r_seq ?_
  refine r_seq ?_
  refine r_region hG (by simp only [hT, tab8, cIntT, cDivT, cCmpT, cCheck, cIs, cAddT, cIsF, cSubT, cMulT, cGcdT, cPow, cFails, cFailsF, cDivides, mx0, mx1, mx2, mx3, mx4, mx5, effOp, endCall, callOp, appendOp, sliceLV, Ty.fieldTy, Ty.fieldOf, Nat.reduceLT, Nat.reduceEqDiff, Nat.reduceAdd, Nat.reduceMul, Nat.reduceSub, Nat.reduceLeDiff, Nat.reduceBEq, Nat.reduceBNe, reduceIte, reduceDIte, reduceCtorEq]; rfl) ?_ ?_ -- R5
  · trivial
  refine k_seq ?_
  refine j_block ?_
  refine j_loop (fun (z : Nat) => (⟨[(1, .l (.z (.int .i64) (intV ([57, 50, 50, 51, 51, 55, 50, 48, 51, 54, 56, 53, 52, 55, 55, 53, 56, 48, 55] : List UInt8)))), (2, .l (.z (.int .i64) (intE ([57, 50, 50, 51, 51, 55, 50, 48, 51, 54, 56, 53, 52, 55, 55, 53, 56, 48, 55] : List UInt8)))), (4, .l (.z (.int .i64) (intE ([57, 50, 50, 51, 51, 55, 50, 48, 51, 54, 56, 53, 52, 55, 55, 53, 56, 48, 56] : List UInt8)))), (7, .l (.z (.int .i64) (divVE [49] [48]))), (8, .l (.z (.int .i64) (cmpV [45, 53] [51]))), (9, .l (.z (.int .i64) (chkAll [[45, 53], [51]]))), (30, .l (.z (.arr 5 .str) badTexts)), (31, .l (.z (.int .i64) (z : Int)))], []⟩ : AState)) (fun z => z ≤ 5) (fun z => 5 - z) 0 ?_ ?_ ?_
  · simp only [ml0, ml1, Nat.reduceLT, Nat.reduceEqDiff, Nat.reduceAdd, Nat.reduceMul, Nat.reduceSub, Nat.reduceLeDiff, Nat.reduceBEq, Nat.reduceBNe, reduceIte, reduceDIte, reduceCtorEq]
    exact ⟨rfl, rfl⟩
  · omega
  · rintro k hk
    try dsimp only at hk
    refine r_seq ?_
    refine r_region hG (by simp only [hT, tab8, cIntT, cDivT, cCmpT, cCheck, cIs, cAddT, cIsF, cSubT, cMulT, cGcdT, cPow, cFails, cFailsF, cDivides, mx0, mx1, mx2, mx3, mx4, mx5, effOp, endCall, callOp, appendOp, sliceLV, Ty.fieldTy, Ty.fieldOf, Nat.reduceLT, Nat.reduceEqDiff, Nat.reduceAdd, Nat.reduceMul, Nat.reduceSub, Nat.reduceLeDiff, Nat.reduceBEq, Nat.reduceBNe, reduceIte, reduceDIte, reduceCtorEq]; rfl) ?_ ?_ -- R6
    · trivial
    refine k_seq ?_
    refine r_seq ?_
    refine r_cond (by simp only [hT, tab8, mx0, mx1, mx2, mx3, mx4, mx5, effOp, endCall, callOp, appendOp, sliceLV, Ty.fieldTy, Ty.fieldOf, Nat.reduceLT, Nat.reduceEqDiff, Nat.reduceAdd, Nat.reduceMul, Nat.reduceSub, Nat.reduceLeDiff, Nat.reduceBEq, Nat.reduceBNe, reduceIte, reduceDIte, reduceCtorEq]; rfl) ?_ ?_
    · intro hb0
      try simp only [decide_eq_true_eq, decide_eq_false_iff_not, beq_iff_eq, bne_iff_ne, Bool.not_eq_true', Bool.and_eq_true] at hb0
      refine r_skip ?_
      refine k_seq ?_
      refine r_seq ?_
      refine j_block ?_
      refine r_seq ?_
      refine r_region hG (by simp only [hT, tab8, cIntT, cDivT, cCmpT, cCheck, cIs, cAddT, cIsF, cSubT, cMulT, cGcdT, cPow, cFails, cFailsF, cDivides, mx0, mx1, mx2, mx3, mx4, mx5, effOp, endCall, callOp, appendOp, sliceLV, Ty.fieldTy, Ty.fieldOf, Nat.reduceLT, Nat.reduceEqDiff, Nat.reduceAdd, Nat.reduceMul, Nat.reduceSub, Nat.reduceLeDiff, Nat.reduceBEq, Nat.reduceBNe, reduceIte, reduceDIte, reduceCtorEq]; rfl) ?_ ?_ -- R7
      · try simp only [and_true, true_and]
        exact ⟨by omega, by show (k : Int) < 5; omega⟩
      refine k_seq ?_
      refine r_seq ?_
      refine r_region hG (by simp only [hT, tab8, cIntT, cDivT, cCmpT, cCheck, cIs, cAddT, cIsF, cSubT, cMulT, cGcdT, cPow, cFails, cFailsF, cDivides, mx0, mx1, mx2, mx3, mx4, mx5, effOp, endCall, callOp, appendOp, sliceLV, Ty.fieldTy, Ty.fieldOf, Nat.reduceLT, Nat.reduceEqDiff, Nat.reduceAdd, Nat.reduceMul, Nat.reduceSub, Nat.reduceLeDiff, Nat.reduceBEq, Nat.reduceBNe, reduceIte, reduceDIte, reduceCtorEq]; rfl) ?_ ?_ -- R8
      · try simp only [and_true, true_and]
        exact bad_short k
      refine k_seq ?_
      refine r_cond (by simp only [hT, tab8, mx0, mx1, mx2, mx3, mx4, mx5, effOp, endCall, callOp, appendOp, sliceLV, Ty.fieldTy, Ty.fieldOf, Nat.reduceLT, Nat.reduceEqDiff, Nat.reduceAdd, Nat.reduceMul, Nat.reduceSub, Nat.reduceLeDiff, Nat.reduceBEq, Nat.reduceBNe, reduceIte, reduceDIte, reduceCtorEq]; rfl) ?_ ?_
      · intro hb1
        simp only [decide_eq_true_eq, bne_iff_ne] at hb1
        exact absurd (bad_chk (by omega)) hb1
      · intro hb1
        try simp only [decide_eq_true_eq, decide_eq_false_iff_not, beq_eq_false_iff_ne, bne_eq_false_iff_eq, Bool.not_eq_false', Bool.and_eq_false_imp] at hb1
        refine r_skip ?_
        refine k_block ?_
        refine k_seq ?_
        refine r_region hG (by simp only [hT, tab8, cIntT, cDivT, cCmpT, cCheck, cIs, cAddT, cIsF, cSubT, cMulT, cGcdT, cPow, cFails, cFailsF, cDivides, mx0, mx1, mx2, mx3, mx4, mx5, effOp, endCall, callOp, appendOp, sliceLV, Ty.fieldTy, Ty.fieldOf, Nat.reduceLT, Nat.reduceEqDiff, Nat.reduceAdd, Nat.reduceMul, Nat.reduceSub, Nat.reduceLeDiff, Nat.reduceBEq, Nat.reduceBNe, reduceIte, reduceDIte, reduceCtorEq]; rfl) ?_ ?_ -- R10
        · trivial
        show ∃ z, _
        simp only [ml0, ml1, Nat.reduceLT, Nat.reduceEqDiff, Nat.reduceAdd, Nat.reduceMul, Nat.reduceSub, Nat.reduceLeDiff, Nat.reduceBEq, Nat.reduceBNe, reduceIte, reduceDIte, reduceCtorEq]
        exact ⟨k + 1, by rw [wi (by omega) (by omega)]; simp, by omega, by omega⟩
    · intro hb0
      try simp only [decide_eq_true_eq, decide_eq_false_iff_not, beq_eq_false_iff_ne, bne_eq_false_iff_eq, Bool.not_eq_false', Bool.and_eq_false_imp] at hb0
      refine r_exit ?_
      refine k_seq_exit ?_
      refine k_round_exit ?_
      refine k_block_exit ?_
      refine k_seq ?_
      refine r_cut (fun (z : Unit) => (⟨[(1, .l (.z (.int .i64) (intV ([57, 50, 50, 51, 51, 55, 50, 48, 51, 54, 56, 53, 52, 55, 55, 53, 56, 48, 55] : List UInt8)))), (2, .l (.z (.int .i64) (intE ([57, 50, 50, 51, 51, 55, 50, 48, 51, 54, 56, 53, 52, 55, 55, 53, 56, 48, 55] : List UInt8)))), (4, .l (.z (.int .i64) (intE ([57, 50, 50, 51, 51, 55, 50, 48, 51, 54, 56, 53, 52, 55, 55, 53, 56, 48, 56] : List UInt8)))), (7, .l (.z (.int .i64) (divVE [49] [48]))), (8, .l (.z (.int .i64) (cmpV [45, 53] [51]))), (9, .l (.z (.int .i64) (chkAll [[45, 53], [51]]))), (12, .l (.z .bool true))], []⟩ : AState)) (fun z => True) ?_ ?_
      · refine r_region hG (by simp only [hT, tab8, cIntT, cDivT, cCmpT, cCheck, cIs, cAddT, cIsF, cSubT, cMulT, cGcdT, cPow, cFails, cFailsF, cDivides, mx0, mx1, mx2, mx3, mx4, mx5, effOp, endCall, callOp, appendOp, sliceLV, Ty.fieldTy, Ty.fieldOf, Nat.reduceLT, Nat.reduceEqDiff, Nat.reduceAdd, Nat.reduceMul, Nat.reduceSub, Nat.reduceLeDiff, Nat.reduceBEq, Nat.reduceBNe, reduceIte, reduceDIte, reduceCtorEq]; rfl) ?_ ?_ -- R11
        · try simp only [and_true, true_and]
          simp [wk1.1, wk1.2, wk2.1, wk2.2, wk3.1, wk3.2, wk4.1, wk4.2, wk5.1, wk5.2, wk6.1, wk6.2, wk7.1, wk7.2, wk8.1, wk8.2, wk9.1, wk9.2, wk10.1, wk10.2, wk11.1, wk11.2.1, wk11.2.2, wk12.1, wk12.2.1, wk12.2.2, wk13.1, wk13.2.1, wk13.2.2, wk14.1, wk14.2.1, wk14.2.2, wk15.1, wk15.2.1, wk15.2.2, wk16.1, wk16.2.1, wk16.2.2, Short]
        show ∃ z, _
        simp only [ml0, ml1, Nat.reduceLT, Nat.reduceEqDiff, Nat.reduceAdd, Nat.reduceMul, Nat.reduceSub, Nat.reduceLeDiff, Nat.reduceBEq, Nat.reduceBNe, reduceIte, reduceDIte, reduceCtorEq]
        simp [wk1.1, wk1.2, wk2.1, wk2.2, wk3.1, wk3.2, wk4.1, wk4.2, wk5.1, wk5.2, wk6.1, wk6.2, wk7.1, wk7.2, wk8.1, wk8.2, wk9.1, wk9.2, wk10.1, wk10.2, wk11.1, wk11.2.1, wk11.2.2, wk12.1, wk12.2.1, wk12.2.2, wk13.1, wk13.2.1, wk13.2.2, wk14.1, wk14.2.1, wk14.2.2, wk15.1, wk15.2.1, wk15.2.2, wk16.1, wk16.2.1, wk16.2.2]
      rintro ⟨⟩ hu
      try dsimp only at hu
      refine r_cut (fun (z : Unit) => (⟨[(1, .l (.z (.int .i64) (intV ([57, 50, 50, 51, 51, 55, 50, 48, 51, 54, 56, 53, 52, 55, 55, 53, 56, 48, 55] : List UInt8)))), (2, .l (.z (.int .i64) (intE ([57, 50, 50, 51, 51, 55, 50, 48, 51, 54, 56, 53, 52, 55, 55, 53, 56, 48, 55] : List UInt8)))), (4, .l (.z (.int .i64) (intE ([57, 50, 50, 51, 51, 55, 50, 48, 51, 54, 56, 53, 52, 55, 55, 53, 56, 48, 56] : List UInt8)))), (7, .l (.z (.int .i64) (divVE [49] [48]))), (8, .l (.z (.int .i64) (cmpV [45, 53] [51]))), (9, .l (.z (.int .i64) (chkAll [[45, 53], [51]]))), (12, .l (.z .bool true))], []⟩ : AState)) (fun z => True) ?_ ?_
      · refine r_region hG (by simp only [hT, tab8, cIntT, cDivT, cCmpT, cCheck, cIs, cAddT, cIsF, cSubT, cMulT, cGcdT, cPow, cFails, cFailsF, cDivides, mx0, mx1, mx2, mx3, mx4, mx5, effOp, endCall, callOp, appendOp, sliceLV, Ty.fieldTy, Ty.fieldOf, Nat.reduceLT, Nat.reduceEqDiff, Nat.reduceAdd, Nat.reduceMul, Nat.reduceSub, Nat.reduceLeDiff, Nat.reduceBEq, Nat.reduceBNe, reduceIte, reduceDIte, reduceCtorEq]; rfl) ?_ ?_ -- R12
        · try simp only [and_true, true_and]
          simp [wk1.1, wk1.2, wk2.1, wk2.2, wk3.1, wk3.2, wk4.1, wk4.2, wk5.1, wk5.2, wk6.1, wk6.2, wk7.1, wk7.2, wk8.1, wk8.2, wk9.1, wk9.2, wk10.1, wk10.2, wk11.1, wk11.2.1, wk11.2.2, wk12.1, wk12.2.1, wk12.2.2, wk13.1, wk13.2.1, wk13.2.2, wk14.1, wk14.2.1, wk14.2.2, wk15.1, wk15.2.1, wk15.2.2, wk16.1, wk16.2.1, wk16.2.2, Short, I64]
        show ∃ z, _
        simp only [ml0, ml1, Nat.reduceLT, Nat.reduceEqDiff, Nat.reduceAdd, Nat.reduceMul, Nat.reduceSub, Nat.reduceLeDiff, Nat.reduceBEq, Nat.reduceBNe, reduceIte, reduceDIte, reduceCtorEq]
        simp [wk1.1, wk1.2, wk2.1, wk2.2, wk3.1, wk3.2, wk4.1, wk4.2, wk5.1, wk5.2, wk6.1, wk6.2, wk7.1, wk7.2, wk8.1, wk8.2, wk9.1, wk9.2, wk10.1, wk10.2, wk11.1, wk11.2.1, wk11.2.2, wk12.1, wk12.2.1, wk12.2.2, wk13.1, wk13.2.1, wk13.2.2, wk14.1, wk14.2.1, wk14.2.2, wk15.1, wk15.2.1, wk15.2.2, wk16.1, wk16.2.1, wk16.2.2]
      rintro ⟨⟩ hu
      try dsimp only at hu
      refine r_seq ?_
      refine r_region hG (by simp only [hT, tab8, cIntT, cDivT, cCmpT, cCheck, cIs, cAddT, cIsF, cSubT, cMulT, cGcdT, cPow, cFails, cFailsF, cDivides, mx0, mx1, mx2, mx3, mx4, mx5, effOp, endCall, callOp, appendOp, sliceLV, Ty.fieldTy, Ty.fieldOf, Nat.reduceLT, Nat.reduceEqDiff, Nat.reduceAdd, Nat.reduceMul, Nat.reduceSub, Nat.reduceLeDiff, Nat.reduceBEq, Nat.reduceBNe, reduceIte, reduceDIte, reduceCtorEq]; rfl) ?_ ?_ -- R13
      · try simp only [and_true, true_and]
        simp [wk1.1, wk1.2, wk2.1, wk2.2, wk3.1, wk3.2, wk4.1, wk4.2, wk5.1, wk5.2, wk6.1, wk6.2, wk7.1, wk7.2, wk8.1, wk8.2, wk9.1, wk9.2, wk10.1, wk10.2, wk11.1, wk11.2.1, wk11.2.2, wk12.1, wk12.2.1, wk12.2.2, wk13.1, wk13.2.1, wk13.2.2, wk14.1, wk14.2.1, wk14.2.2, wk15.1, wk15.2.1, wk15.2.2, wk16.1, wk16.2.1, wk16.2.2, Short]
      refine k_seq ?_
      refine r_ret ?_
      refine ⟨[], ?_⟩
      simp only [hT, tab8, mr0, mr1, mr2, Nat.reduceLT, Nat.reduceEqDiff, Nat.reduceAdd, Nat.reduceMul, Nat.reduceSub, Nat.reduceLeDiff, Nat.reduceBEq, Nat.reduceBNe, reduceIte, reduceDIte, reduceCtorEq]
      simp [wk1.1, wk1.2, wk2.1, wk2.2, wk3.1, wk3.2, wk4.1, wk4.2, wk5.1, wk5.2, wk6.1, wk6.2, wk7.1, wk7.2, wk8.1, wk8.2, wk9.1, wk9.2, wk10.1, wk10.2, wk11.1, wk11.2.1, wk11.2.2, wk12.1, wk12.2.1, wk12.2.2, wk13.1, wk13.2.1, wk13.2.2, wk14.1, wk14.2.1, wk14.2.2, wk15.1, wk15.2.1, wk15.2.2, wk16.1, wk16.2.1, wk16.2.2]

end Go.Proofs.YtkgbdpmhdplddaaDoor
end

section
/- The functions of the package exact, one after the other: each meets its contract. -/
set_option linter.unusedSimpArgs false
set_option linter.unusedVariables false
set_option maxRecDepth 100000
namespace Go.Proofs.YtkgbdpmhdplddaaDoor
open Go Go.Cm Go.Proofs

def tab3 (B : Base) : Tab := { types := [(9, .str), (24, (.st (.pair .bool (.pair (.slice (.int .u8)) (.int .u8))))), (27, (.int .i64))], elems := [], cons := [(8, cWorks), (9, cDraft), (10, cAddT), (11, cMulT), (12, cIs), (13, cSubT), (28, cIsF)], hint := [], N := 102, base := B }
theorem good3 {B : Base} (hB : Tabs B) : MGood Tryd.prog (tab3 B) := ⟨⟨types_cons ty9 (types_cons ty24 (types_cons ty27 (types_nil))), elems_nil, by simp only [tab3, ioB]; omega⟩, cons_ok (cals_cons (cal_ok Tryd.func8 (by kernel_rfl) rfl (valid8 hB)) (cals_cons (cal_ok Tryd.func9 (by kernel_rfl) rfl (valid9 hB)) (cals_cons (cal_ok Tryd.func10 (by kernel_rfl) rfl (valid10 hB)) (cals_cons (cal_ok Tryd.func11 (by kernel_rfl) rfl (valid11 hB)) (cals_cons (cal_ok Tryd.func12 (by kernel_rfl) rfl (valid12 hB)) (cals_cons (cal_ok Tryd.func13 (by kernel_rfl) rfl (valid13 hB)) (cals_cons (cal_ok Tryd.func28 (by kernel_rfl) rfl (valid28 hB)) (cals_nil)))))))), by kernel_rfl⟩
def cRing : Con := fun l os => match l, os with
  | [.z (.st (.pair .bool (.pair (.slice (.int .u8)) (.int .u8)))) a, .z (.st (.pair .bool (.pair (.slice (.int .u8)) (.int .u8)))) b, .z (.st (.pair .bool (.pair (.slice (.int .u8)) (.int .u8)))) c], [] => some (DOK a ∧ DOK b ∧ DOK c, [.z .bool true], [])
  | _, _ => none

theorem valid3 {B : Base} (hB : Tabs B) : Valid B Tryd.prog 3 cRing := by
  refine valid_of_J (T := tab3 B) (good3 hB).tab Tryd.func3 rfl rfl rfl ?_
  intro args os C rs os' hc hC
  unfold cRing at hc
  split at hc
  case h_2 => cases hc
  rename_i a b c
  cases hc
  refine ⟨by simp only [List.length_cons, List.length_nil, tab3]; omega, rfl, ?_⟩
  intro X hP hT hr
  have hG : MGood X.P X.T := by rw [hP, hT]; exact good3 hB
  simp only [Tryd.f3, argEnv, ioList, ioB]
  refine r_seq ?_
  refine r_region hG (by simp only [hT, tab3, cWorks, cDraft, cAddT, cMulT, cIs, cSubT, cIsF, mx0, mx1, mx2, mx3, mx4, mx5, effOp, endCall, callOp, appendOp, sliceLV, Ty.fieldTy, Ty.fieldOf, Nat.reduceLT, Nat.reduceEqDiff, Nat.reduceAdd, Nat.reduceMul, Nat.reduceSub, Nat.reduceLeDiff, Nat.reduceBEq, Nat.reduceBNe, reduceIte, reduceDIte, reduceCtorEq]; rfl) ?_ ?_ -- R0
  · trivial
  refine k_seq ?_
  refine r_seq ?_
  refine r_seq ?_
  refine r_region hG (by simp only [hT, tab3, cWorks, cDraft, cAddT, cMulT, cIs, cSubT, cIsF, mx0, mx1, mx2, mx3, mx4, mx5, effOp, endCall, callOp, appendOp, sliceLV, Ty.fieldTy, Ty.fieldOf, Nat.reduceLT, Nat.reduceEqDiff, Nat.reduceAdd, Nat.reduceMul, Nat.reduceSub, Nat.reduceLeDiff, Nat.reduceBEq, Nat.reduceBNe, reduceIte, reduceDIte, reduceCtorEq]; rfl) ?_ ?_ -- R1
  · trivial
  refine k_seq ?_
  refine r_cond (by simp only [hT, tab3, mx0, mx1, mx2, mx3, mx4, mx5, effOp, endCall, callOp, appendOp, sliceLV, Ty.fieldTy, Ty.fieldOf, Nat.reduceLT, Nat.reduceEqDiff, Nat.reduceAdd, Nat.reduceMul, Nat.reduceSub, Nat.reduceLeDiff, Nat.reduceBEq, Nat.reduceBNe, reduceIte, reduceDIte, reduceCtorEq]; rfl) ?_ ?_
  · intro hb0
    try simp only [decide_eq_true_eq, decide_eq_false_iff_not, beq_iff_eq, bne_iff_ne, Bool.not_eq_true', Bool.and_eq_true] at hb0
    refine r_seq ?_
    refine r_region hG (by simp only [hT, tab3, cWorks, cDraft, cAddT, cMulT, cIs, cSubT, cIsF, mx0, mx1, mx2, mx3, mx4, mx5, effOp, endCall, callOp, appendOp, sliceLV, Ty.fieldTy, Ty.fieldOf, Nat.reduceLT, Nat.reduceEqDiff, Nat.reduceAdd, Nat.reduceMul, Nat.reduceSub, Nat.reduceLeDiff, Nat.reduceBEq, Nat.reduceBNe, reduceIte, reduceDIte, reduceCtorEq]; rfl) ?_ ?_ -- R2
    · trivial
    refine k_seq ?_
    refine r_ret ?_
    refine k_seq_ret ?_
    refine ⟨[], ?_⟩
    simp only [hT, tab3, mr0, mr1, mr2, Nat.reduceLT, Nat.reduceEqDiff, Nat.reduceAdd, Nat.reduceMul, Nat.reduceSub, Nat.reduceLeDiff, Nat.reduceBEq, Nat.reduceBNe, reduceIte, reduceDIte, reduceCtorEq]
    cases hb0
  · intro hb0
    try simp only [decide_eq_true_eq, decide_eq_false_iff_not, beq_eq_false_iff_ne, bne_eq_false_iff_eq, Bool.not_eq_false', Bool.and_eq_false_imp] at hb0
    refine r_skip ?_
    refine k_seq ?_
    refine r_cut (fun (z : List UInt8 × List UInt8 × List UInt8) => (⟨[(7, .l (.z .str z.1)), (8, .l (.z .str z.2.1)), (9, .l (.z .str z.2.2))], []⟩ : AState)) (fun z => Three z.1 z.2.1 z.2.2) ?_ ?_
    · refine r_draw hG (by simp only [hT, mt0, tab3, cWorks, cDraft, cAddT, cMulT, cIs, cSubT, cIsF, mx0, mx1, mx2, mx3, mx4, mx5, effOp, endCall, callOp, appendOp, sliceLV, Ty.fieldTy, Ty.fieldOf, Nat.reduceLT, Nat.reduceEqDiff, Nat.reduceAdd, Nat.reduceMul, Nat.reduceSub, Nat.reduceLeDiff, Nat.reduceBEq, Nat.reduceBNe, reduceIte, reduceDIte, reduceCtorEq]; rfl) (by kernel_rfl) (by rfl) (by rfl) ?_ ?_ -- R3
      · try simp only [and_true, true_and]
        exact hC
      show ∃ z, _
      simp only [ml0, ml1, Nat.reduceLT, Nat.reduceEqDiff, Nat.reduceAdd, Nat.reduceMul, Nat.reduceSub, Nat.reduceLeDiff, Nat.reduceBEq, Nat.reduceBNe, reduceIte, reduceDIte, reduceCtorEq]
      exact three_ok hC.1 hC.2.1 hC.2.2
    rintro ⟨sa, sb, sc⟩ h3
    try dsimp only at h3
    obtain ⟨x, y, w, ⟨oa, na⟩, ⟨ob, nb⟩, ⟨oc, nc⟩⟩ := h3
    refine r_cut (fun (z : List UInt8 × Int) => (⟨[(7, .l (.z .str sa)), (8, .l (.z .str sb)), (9, .l (.z .str sc)), (10, .l (.z .str z.1)), (11, .l (.z (.int .i64) z.2))], []⟩ : AState)) (fun z => OKT z.1 (y + w) ∧ z.2 = 0) ?_ ?_
    · refine r_region hG (by simp only [hT, tab3, cWorks, cDraft, cAddT, cMulT, cIs, cSubT, cIsF, mx0, mx1, mx2, mx3, mx4, mx5, effOp, endCall, callOp, appendOp, sliceLV, Ty.fieldTy, Ty.fieldOf, Nat.reduceLT, Nat.reduceEqDiff, Nat.reduceAdd, Nat.reduceMul, Nat.reduceSub, Nat.reduceLeDiff, Nat.reduceBEq, Nat.reduceBNe, reduceIte, reduceDIte, reduceCtorEq]; rfl) ?_ ?_ -- R4
      · try simp only [and_true, true_and]
        exact ⟨ob.short, oc.short⟩
      show ∃ z, _
      simp only [ml0, ml1, Nat.reduceLT, Nat.reduceEqDiff, Nat.reduceAdd, Nat.reduceMul, Nat.reduceSub, Nat.reduceLeDiff, Nat.reduceBEq, Nat.reduceBNe, reduceIte, reduceDIte, reduceCtorEq]
      rw [ob.v, oc.v]; exact ob.res oc (nb.add nc) (by decide)
    rintro ⟨t10, e10⟩ ⟨o10, he10⟩
    try dsimp only at o10 he10
    subst he10
    refine r_cut (fun (z : List UInt8 × Int) => (⟨[(7, .l (.z .str sa)), (8, .l (.z .str sb)), (9, .l (.z .str sc)), (10, .l (.z .str t10)), (11, .l (.z (.int .i64) 0)), (12, .l (.z .str z.1)), (13, .l (.z (.int .i64) z.2))], []⟩ : AState)) (fun z => OKT z.1 (x * y) ∧ z.2 = 0) ?_ ?_
    · refine r_region hG (by simp only [hT, tab3, cWorks, cDraft, cAddT, cMulT, cIs, cSubT, cIsF, mx0, mx1, mx2, mx3, mx4, mx5, effOp, endCall, callOp, appendOp, sliceLV, Ty.fieldTy, Ty.fieldOf, Nat.reduceLT, Nat.reduceEqDiff, Nat.reduceAdd, Nat.reduceMul, Nat.reduceSub, Nat.reduceLeDiff, Nat.reduceBEq, Nat.reduceBNe, reduceIte, reduceDIte, reduceCtorEq]; rfl) ?_ ?_ -- R5
      · try simp only [and_true, true_and]
        exact ⟨oa.short, ob.short⟩
      show ∃ z, _
      simp only [ml0, ml1, Nat.reduceLT, Nat.reduceEqDiff, Nat.reduceAdd, Nat.reduceMul, Nat.reduceSub, Nat.reduceLeDiff, Nat.reduceBEq, Nat.reduceBNe, reduceIte, reduceDIte, reduceCtorEq]
      rw [oa.v, ob.v]; exact oa.res ob (na.mul nb) (by decide)
    rintro ⟨t12, e12⟩ ⟨o12, he12⟩
    try dsimp only at o12 he12
    subst he12
    refine r_cut (fun (z : List UInt8 × Int) => (⟨[(7, .l (.z .str sa)), (8, .l (.z .str sb)), (9, .l (.z .str sc)), (10, .l (.z .str t10)), (11, .l (.z (.int .i64) 0)), (12, .l (.z .str t12)), (13, .l (.z (.int .i64) 0)), (14, .l (.z .str z.1)), (15, .l (.z (.int .i64) z.2))], []⟩ : AState)) (fun z => OKT z.1 (x * w) ∧ z.2 = 0) ?_ ?_
    · refine r_region hG (by simp only [hT, tab3, cWorks, cDraft, cAddT, cMulT, cIs, cSubT, cIsF, mx0, mx1, mx2, mx3, mx4, mx5, effOp, endCall, callOp, appendOp, sliceLV, Ty.fieldTy, Ty.fieldOf, Nat.reduceLT, Nat.reduceEqDiff, Nat.reduceAdd, Nat.reduceMul, Nat.reduceSub, Nat.reduceLeDiff, Nat.reduceBEq, Nat.reduceBNe, reduceIte, reduceDIte, reduceCtorEq]; rfl) ?_ ?_ -- R6
      · try simp only [and_true, true_and]
        exact ⟨oa.short, oc.short⟩
      show ∃ z, _
      simp only [ml0, ml1, Nat.reduceLT, Nat.reduceEqDiff, Nat.reduceAdd, Nat.reduceMul, Nat.reduceSub, Nat.reduceLeDiff, Nat.reduceBEq, Nat.reduceBNe, reduceIte, reduceDIte, reduceCtorEq]
      rw [oa.v, oc.v]; exact oa.res oc (na.mul nc) (by decide)
    rintro ⟨t14, e14⟩ ⟨o14, he14⟩
    try dsimp only at o14 he14
    subst he14
    refine r_cut (fun (z : List UInt8 × Int) => (⟨[(7, .l (.z .str sa)), (8, .l (.z .str sb)), (9, .l (.z .str sc)), (10, .l (.z .str t10)), (11, .l (.z (.int .i64) 0)), (12, .l (.z .str t12)), (13, .l (.z (.int .i64) 0)), (14, .l (.z .str t14)), (15, .l (.z (.int .i64) 0)), (16, .l (.z .str z.1)), (17, .l (.z (.int .i64) z.2))], []⟩ : AState)) (fun z => OKT z.1 (x * (y + w)) ∧ z.2 = 0) ?_ ?_
    · refine r_region hG (by simp only [hT, tab3, cWorks, cDraft, cAddT, cMulT, cIs, cSubT, cIsF, mx0, mx1, mx2, mx3, mx4, mx5, effOp, endCall, callOp, appendOp, sliceLV, Ty.fieldTy, Ty.fieldOf, Nat.reduceLT, Nat.reduceEqDiff, Nat.reduceAdd, Nat.reduceMul, Nat.reduceSub, Nat.reduceLeDiff, Nat.reduceBEq, Nat.reduceBNe, reduceIte, reduceDIte, reduceCtorEq]; rfl) ?_ ?_ -- R7
      · try simp only [and_true, true_and]
        exact ⟨oa.short, o10.short⟩
      show ∃ z, _
      simp only [ml0, ml1, Nat.reduceLT, Nat.reduceEqDiff, Nat.reduceAdd, Nat.reduceMul, Nat.reduceSub, Nat.reduceLeDiff, Nat.reduceBEq, Nat.reduceBNe, reduceIte, reduceDIte, reduceCtorEq]
      rw [oa.v, o10.v]; exact oa.res o10 (na.mul (nb.add nc)) (by decide)
    rintro ⟨t16, e16⟩ ⟨o16, he16⟩
    try dsimp only at o16 he16
    subst he16
    refine r_seq ?_
    refine r_seq ?_
    refine r_region hG (by simp only [hT, tab3, cWorks, cDraft, cAddT, cMulT, cIs, cSubT, cIsF, mx0, mx1, mx2, mx3, mx4, mx5, effOp, endCall, callOp, appendOp, sliceLV, Ty.fieldTy, Ty.fieldOf, Nat.reduceLT, Nat.reduceEqDiff, Nat.reduceAdd, Nat.reduceMul, Nat.reduceSub, Nat.reduceLeDiff, Nat.reduceBEq, Nat.reduceBNe, reduceIte, reduceDIte, reduceCtorEq]; rfl) ?_ ?_ -- R8
    · trivial
    refine k_seq ?_
    refine r_cond (by simp only [hT, tab3, mx0, mx1, mx2, mx3, mx4, mx5, effOp, endCall, callOp, appendOp, sliceLV, Ty.fieldTy, Ty.fieldOf, Nat.reduceLT, Nat.reduceEqDiff, Nat.reduceAdd, Nat.reduceMul, Nat.reduceSub, Nat.reduceLeDiff, Nat.reduceBEq, Nat.reduceBNe, reduceIte, reduceDIte, reduceCtorEq]; rfl) ?_ ?_
    · intro hb1
      try simp only [decide_eq_true_eq, decide_eq_false_iff_not, beq_iff_eq, bne_iff_ne, Bool.not_eq_true', Bool.and_eq_true] at hb1
      refine r_seq ?_
      refine r_region hG (by simp only [hT, tab3, cWorks, cDraft, cAddT, cMulT, cIs, cSubT, cIsF, mx0, mx1, mx2, mx3, mx4, mx5, effOp, endCall, callOp, appendOp, sliceLV, Ty.fieldTy, Ty.fieldOf, Nat.reduceLT, Nat.reduceEqDiff, Nat.reduceAdd, Nat.reduceMul, Nat.reduceSub, Nat.reduceLeDiff, Nat.reduceBEq, Nat.reduceBNe, reduceIte, reduceDIte, reduceCtorEq]; rfl) ?_ ?_ -- R9
      · trivial
      refine k_seq ?_
      refine r_ret ?_
      refine k_seq_ret ?_
      refine ⟨[], ?_⟩
      simp only [hT, tab3, mr0, mr1, mr2, Nat.reduceLT, Nat.reduceEqDiff, Nat.reduceAdd, Nat.reduceMul, Nat.reduceSub, Nat.reduceLeDiff, Nat.reduceBEq, Nat.reduceBNe, reduceIte, reduceDIte, reduceCtorEq]
      cases hb1
    · intro hb1
      try simp only [decide_eq_true_eq, decide_eq_false_iff_not, beq_eq_false_iff_ne, bne_eq_false_iff_eq, Bool.not_eq_false', Bool.and_eq_false_imp] at hb1
      refine r_skip ?_
      refine k_seq ?_
      refine r_seq ?_
      refine r_region hG (by simp only [hT, tab3, cWorks, cDraft, cAddT, cMulT, cIs, cSubT, cIsF, mx0, mx1, mx2, mx3, mx4, mx5, effOp, endCall, callOp, appendOp, sliceLV, Ty.fieldTy, Ty.fieldOf, Nat.reduceLT, Nat.reduceEqDiff, Nat.reduceAdd, Nat.reduceMul, Nat.reduceSub, Nat.reduceLeDiff, Nat.reduceBEq, Nat.reduceBNe, reduceIte, reduceDIte, reduceCtorEq]; rfl) ?_ ?_ -- R10
      · try simp only [and_true, true_and]
        have f1 := oc.is ob o10 (v := numI sc + numI sb) (by rw [oc.v, ob.v]; omega)
        have f2 := ob.is oa o12 (v := numI sb * numI sa) (by rw [ob.v, oa.v, Int.mul_comm])
        have f3 := o10.is oc ob (v := numI t10 - numI sc) (by rw [o10.v, oc.v]; omega)
        have f4 := o12.is o14 o16 (v := numI t12 + numI t14) (by rw [o12.v, o14.v, Int.mul_add])
        simp [f1.1, f1.2, f2.1, f2.2, f3.1, f3.2, f4.1, f4.2, oa.short, ob.short, oc.short, o10.short, o12.short, o14.short]
      refine k_seq ?_
      refine r_ret ?_
      refine ⟨[], ?_⟩
      simp only [hT, tab3, mr0, mr1, mr2, Nat.reduceLT, Nat.reduceEqDiff, Nat.reduceAdd, Nat.reduceMul, Nat.reduceSub, Nat.reduceLeDiff, Nat.reduceBEq, Nat.reduceBNe, reduceIte, reduceDIte, reduceCtorEq]
      have f1 := oc.is ob o10 (v := numI sc + numI sb) (by rw [oc.v, ob.v]; omega)
      have f2 := ob.is oa o12 (v := numI sb * numI sa) (by rw [ob.v, oa.v, Int.mul_comm])
      have f3 := o10.is oc ob (v := numI t10 - numI sc) (by rw [o10.v, oc.v]; omega)
      have f4 := o12.is o14 o16 (v := numI t12 + numI t14) (by rw [o12.v, o14.v, Int.mul_add])
      simp [f1.1, f1.2, f2.1, f2.2, f3.1, f3.2, f4.1, f4.2, oa.short, ob.short, oc.short, o10.short, o12.short, o14.short]

end Go.Proofs.YtkgbdpmhdplddaaDoor
end

section
/- THE LAW OF RINGS: its row, its card. -/
namespace Go.Proofs.YtkgbdpmhdplddaaDoor.ring
open Go Go.Cm Go.Proofs Go.ChangeShapes Go.WideShapes Go.ChangeAt Go.RowKit Go.Deep Go.Joins
set_option maxRecDepth 100000

theorem own : ownKnob Tryd.prog.godebug = none := by kernel_rfl
theorem params : Tryd.f3.params = #[24, 24, 24] := by kernel_rfl
theorem rets : Tryd.f3.resultTypes = #[4] := by kernel_rfl
theorem vals {H : Type} (ds : List (DataW H)) (gs : List (DataW H)) (a b c : DataW H) (h : ds = [a, b, c]) (hg : gs = []) : Rows.wholeRingSpec.fn H (ds ++ gs) = { results := [.lit (.bool true)], args := ds } := by subst h hg; rfl

theorem contract (H : Type) (enc : TypeId × Value → H) (W : World) (base : Nat) (args : Array Value) (ds gs : List (DataW H)) (before : List MemPlace)
    (hval : ∀ (j : Nat) t v, Tryd.f3.params[j]? = some t → args[j]? = some v → Value.okWide Tryd.prog W .any base t v)
    (hW : DataW.Whole enc Tryd.prog Tryd.f3.params.toList Rows.wholeRingSpec.vars false W args.toList ds gs before) (hL : laidMetH Tryd.prog Rows.wholeRingRow.laid W) :
    Calls Tryd.prog 3 args W fun e W' => ∃ v, e = .returned v ∧ Rows.wholeRingSpec.post enc Tryd.prog Tryd.f3 false true false false W args v W' := by
  have hW' := hW
  obtain ⟨p, q, hA0, hV, rfl, hfz, hnd⟩ := hW
  have hA : DataW.TrodAll enc Tryd.prog W 0 (fun _ => true) true Tryd.f3.params.toList args.toList ds p := hA0
  rw [params] at hA hval
  obtain ⟨v0, vs0, d0, ds0, p0, q0, hargs, rfl, rfl, h0, r0⟩ := trodAll_cons hA
  obtain ⟨v1, vs1, d1, ds1, p1, q1, rfl, rfl, rfl, h1, r1⟩ := trodAll_cons r0
  obtain ⟨v2, vs2, d2, ds2, p2, q2, rfl, rfl, rfl, h2, r2⟩ := trodAll_cons r1
  obtain ⟨rfl, rfl, rfl⟩ := trodAll_nil r2
  obtain rfl : args = #[v0, v1, v2] := by cases args; simp_all
  obtain ⟨rfl, rfl⟩ := trodVars_none hV
  obtain ⟨x0, k0, a0, s0⟩ := open_draft (hval 0 24 v0 rfl rfl) h0
  obtain ⟨x1, k1, a1, s1⟩ := open_draft (hval 1 24 v1 rfl rfl) h1
  obtain ⟨x2, k2, a2, s2⟩ := open_draft (hval 2 24 v2 rfl rfl) h2
  clear hA0
  have walk := law_calls (valid3 (law_tabs hL)) (args := [.z DT x0, .z DT x1, .z DT x2]) (vals := #[v0, v1, v2]) (C := DOK x0 ∧ DOK x1 ∧ DOK x2) rfl ⟨k0, k1, k2⟩ ⟨a0, a1, a2, trivial⟩
  refine walk.mono fun e W' ⟨he, hos, hout, hsz, hB⟩ => ?_
  subst he
  have again : ∀ sp : Nat → Bool, (∀ z ∈ (p0 ++ (p1 ++ (p2 ++ []))) ++ [], sp z.block = true) → DataW.TrodAll enc Tryd.prog W' 0 sp true Tryd.f3.params.toList #[v0, v1, v2].toList [d0, d1, d2] (p0 ++ (p1 ++ (p2 ++ []))) := by
    intro sp hsp
    rw [params]
    exact trodAll_cons_mk (s0 W' sp hB fun z hz => hsp z (by simp [hz])) (trodAll_cons_mk (s1 W' sp hB fun z hz => hsp z (by simp [hz])) (trodAll_cons_mk (s2 W' sp hB fun z hz => hsp z (by simp [hz])) trodAll_mk0))
  exact ⟨_, rfl, law_post (pa := p0 ++ (p1 ++ (p2 ++ []))) (pv := []) hW' (fun _ _ _ => by rw [rets]; exact trodAll_cons_mk (shut_bool dr_b _) trodAll_mk0) again (fun _ _ => rfl) rfl
    (law_kept hos hout hB) (law_frozen hB) (ok_one (by kernel_rfl) rfl (okWide_bool_mk dr_b _))⟩

theorem reads (os : Os) {H : Type} (enc : TypeId × Value → H) : ∃ places, DataW.whole enc Tryd.prog ((lawWorld os).forCall (fun _ _ => 0) ⟨#[], #[draft0, draft0, draft0], []⟩).memory Tryd.f3.params.toList Rows.wholeRingSpec.vars false #[draft0, draft0, draft0].toList 8 = some ([.agg [.lit (.bool false), .nil, .lit (.int .u8 0)], .agg [.lit (.bool false), .nil, .lit (.int .u8 0)], .agg [.lit (.bool false), .nil, .lit (.int .u8 0)]], [], places) :=
  ⟨[], by kernel_rfl⟩

theorem lifted (os : Os) (started : os.Started) (H : Type) (enc : TypeId × Value → H) (F : Stop.Interp) :
    ReturnsInHanded {} Tryd.checked os 3 .any ((OpenSpec.ofChange Rows.wholeRingSpec).preRow enc Tryd.prog Tryd.f3 Rows.wholeRingRow.domain false Rows.wholeRingRow.laid) (((OpenSpec.ofChange Rows.wholeRingSpec).at F).post enc Tryd.prog Tryd.f3 false true false false) := by
  obtain ⟨places, hx⟩ := reads os enc
  refine returnsInHanded_of_row (C := Tryd.checked) (s := OpenSpec.ofChange Rows.wholeRingSpec) own started (by kernel_rfl) Tryd.func3
    (witness_row_at (enc := enc) (C := Tryd.checked) false (lawWorld os) #[draft0, draft0, draft0] rfl (by kernel_rfl) (by kernel_rfl) (by kernel_rfl)
      (OpenSpec.preRow_of_cond 8 hx (by kernel_rfl) (fun k hk => by cases hk) (by kernel_rfl) (laid_met3 os))) ?_
  intro W base args ds gs before hval hW _ _ _ hL _ _
  exact contract H enc W base args ds gs before hval hW hL

theorem said : Rows.WholeRingSaid :=
  OpenClaim.holds_of_cond 3 Tryd.f3 rfl rfl rfl rfl rfl rfl rfl ⟨rfl, rfl, rfl, rfl, rfl⟩ rfl rfl rfl rfl rfl (by kernel_rfl) Tryd.func3 (by kernel_rfl)
    (of_decide_eq_true (by kernel_rfl)) (by unfold Func.isWrapper; first | (rw [if_pos (by decide +kernel)]; kernel_rfl) | (rw [if_neg (by decide +kernel)]; exact ⟨rfl, rfl⟩))
    (fun os started H enc _ F => by rw [OpenClaim.pre_eq_preRow]; exact lifted os started H enc F)

theorem plain (f : FuncId) (fn : Func) (hf : Tryd.pinned.checked.prog.funcNamed "croupier/croupierlaw01.WholeRing" = some f) (hfn : Tryd.pinned.checked.prog.funcs[f]? = some fn) :
    true = Tryd.pinned.checked.prog.looks [] ∧ ∀ (j : Nat) t, fn.params[j]? = some t → Tryd.pinned.checked.prog.wantsStandIn t = false := by
  obtain rfl : f = 3 := Option.some.inj ((show Tryd.prog.funcNamed "croupier/croupierlaw01.WholeRing" = some 3 by kernel_rfl).symm.trans hf) |>.symm
  obtain rfl : fn = Tryd.f3 := (Option.some.inj (Tryd.func3.symm.trans hfn)).symm
  refine ⟨by kernel_rfl, fun j t ht => ?_⟩
  rw [params] at ht
  obtain rfl : t = 24 := by simpa using Array.mem_of_getElem? ht
  exact (show Tryd.prog.wantsStandIn 24 = false by kernel_rfl)

theorem card : Rows.WholeRingCardSaid :=
  Claim7.holds_tied_plain_at .later [] _ _ _ _ said (fun _ h => by cases h) (by kernel_rfl) (fun _ h => by cases h) wholeRing_row_tie rfl ⟨rfl, rfl⟩ (by kernel_rfl) rfl plain (by kernel_rfl)

end Go.Proofs.YtkgbdpmhdplddaaDoor.ring
end
