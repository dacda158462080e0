/- Merged by a program out of several texts. -/
import Derived.Test.YtkgbdpmhdplddaaDoorQ3
import Derived.Test.YtkgbdpmhdplddaaDoorQ4
import Derived.Test.YtkgbdpmhdplddaaDoorProg
set_option linter.all false
set_option linter.unusedSimpArgs false
set_option linter.unusedVariables false

section
/- The functions of the package exact, one after the other: each meets its contract. -/
set_option linter.unusedSimpArgs false
set_option linter.unusedVariables false
set_option maxRecDepth 100000
namespace Go.Proofs.YtkgbdpmhdplddaaDoor
open Go Go.Cm Go.Proofs

def tab55 (B : Base) : Tab := { types := [(3, (.int .i64)), (4, .bool), (53, (.slice (.int .u32))), (55, (.st (.pair .bool (.slice (.int .u32))))), (82, (.int .u32)), (83, (.int .u64))], elems := [(53, 82)], cons := [(49, cWhole), (51, cCompare), (68, cShort), (69, cScaled), (70, cLose), (71, cGain)], hint := [52, 144, 152], N := 172, io := [(70, [0]), (71, [0])], base := B }
theorem good55 {B : Base} (hB : Tabs B) : MGood Tryd.prog (tab55 B) := ⟨⟨types_cons ty3 (types_cons ty4 (types_cons ty53 (types_cons ty55 (types_cons ty82 (types_cons ty83 (types_nil)))))), elems_cons (by kernel_rfl) (elems_nil), by simp only [tab55, ioB]; omega⟩, cons_ok (cals_cons (cal_ok Tryd.func49 (by kernel_rfl) rfl (valid49 hB)) (cals_cons (cal_ok Tryd.func51 (by kernel_rfl) rfl (valid51 hB)) (cals_cons (cal_ok Tryd.func68 (by kernel_rfl) rfl (valid68 hB)) (cals_cons (cal_ok Tryd.func69 (by kernel_rfl) rfl (valid69 hB)) (cals_cons (cal_ok Tryd.func70 (by kernel_rfl) rfl (valid70 hB)) (cals_cons (cal_ok Tryd.func71 (by kernel_rfl) rfl (valid71 hB)) (cals_nil))))))), by kernel_rfl⟩
def cDivided : Con := fun l os => match l, os with
  | [.z (.slice (.int .u32)) m, .z (.slice (.int .u32)) o], [] => some (Cano m ∧ Cano o ∧ o ≠ [] ∧ m.length + o.length + 1 < CAP, [.z (.slice (.int .u32)) (divQ m o), .z (.slice (.int .u32)) (divR m o)], [])
  | _, _ => none

set_option maxHeartbeats 1000000 in
theorem valid55 {B : Base} (hB : Tabs B) : Valid B Tryd.prog 55 cDivided := by
  refine valid_of_J (T := tab55 B) (good55 hB).tab Tryd.func55 rfl rfl rfl ?_
  intro args os C rs os' hc hC
  unfold cDivided at hc
  split at hc
  case h_2 => cases hc
  rename_i m o
  cases hc
  refine ⟨by simp only [List.length_cons, List.length_nil, tab55]; omega, rfl, ?_⟩
  intro X hP hT hr
  have hG : MGood X.P X.T := by rw [hP, hT]; exact good55 hB
  simp only [Tryd.f55, argEnv, ioList, ioB]
  refine r_seq ?_
  show J X _ _ _
  refine r_region hG (by simp only [hT, tab55, lendArg.eq_def, lenLV.eq_def, cCompare, cShort, cScaled, cLose, cGain, cWhole, mx0, mx1, mx2, mx3, mx4, mx5, effOp, endCall, callOp, appendOp, sliceLV, Ty.fieldTy, Ty.fieldOf, Nat.reduceLT, Nat.reduceEqDiff, Nat.reduceAdd, Nat.reduceMul, Nat.reduceSub, Nat.reduceLeDiff, Nat.reduceBEq, Nat.reduceBNe, reduceIte, reduceDIte, reduceCtorEq]; rfl) ?_ ?_ -- R0
  · trivial
  refine k_seq ?_
  refine r_seq ?_
  refine r_seq ?_
  show J X _ _ _
  refine r_region hG (by simp only [hT, tab55, lendArg.eq_def, lenLV.eq_def, cCompare, cShort, cScaled, cLose, cGain, cWhole, mx0, mx1, mx2, mx3, mx4, mx5, effOp, endCall, callOp, appendOp, sliceLV, Ty.fieldTy, Ty.fieldOf, Nat.reduceLT, Nat.reduceEqDiff, Nat.reduceAdd, Nat.reduceMul, Nat.reduceSub, Nat.reduceLeDiff, Nat.reduceBEq, Nat.reduceBNe, reduceIte, reduceDIte, reduceCtorEq]; rfl) ?_ ?_ -- R1
  · try simp only [and_true, true_and]
    exact ⟨hC.1, hC.2.1, Nat.lt_of_le_of_lt (Nat.le_succ _) hC.2.2.2⟩
  refine k_seq ?_
  refine r_cond (by simp only [hT, tab55, lendArg.eq_def, lenLV.eq_def, mx0, mx1, mx2, mx3, mx4, mx5, effOp, endCall, callOp, appendOp, sliceLV, Ty.fieldTy, Ty.fieldOf, Nat.reduceLT, Nat.reduceEqDiff, Nat.reduceAdd, Nat.reduceMul, Nat.reduceSub, Nat.reduceLeDiff, Nat.reduceBEq, Nat.reduceBNe, reduceIte, reduceDIte, reduceCtorEq]; rfl) ?_ ?_
  · intro hb0
    try simp only [decide_eq_true_eq, decide_eq_false_iff_not, beq_iff_eq, bne_iff_ne, Bool.not_eq_true', Bool.and_eq_true] at hb0
    refine r_seq ?_
    show J X _ _ _
    refine r_region hG (by simp only [hT, tab55, lendArg.eq_def, lenLV.eq_def, cCompare, cShort, cScaled, cLose, cGain, cWhole, mx0, mx1, mx2, mx3, mx4, mx5, effOp, endCall, callOp, appendOp, sliceLV, Ty.fieldTy, Ty.fieldOf, Nat.reduceLT, Nat.reduceEqDiff, Nat.reduceAdd, Nat.reduceMul, Nat.reduceSub, Nat.reduceLeDiff, Nat.reduceBEq, Nat.reduceBNe, reduceIte, reduceDIte, reduceCtorEq]; rfl) ?_ ?_ -- R2
    · trivial
    refine k_seq ?_
    refine r_ret ?_
    refine k_seq_ret ?_
    refine ⟨[62], ?_⟩
    simp only [hT, tab55, mr0, mr1, mr2, Nat.reduceLT, Nat.reduceEqDiff, Nat.reduceAdd, Nat.reduceMul, Nat.reduceSub, Nat.reduceLeDiff, Nat.reduceBEq, Nat.reduceBNe, reduceIte, reduceDIte, reduceCtorEq]
    exact div_less hb0
  · intro hb0
    try simp only [decide_eq_true_eq, decide_eq_false_iff_not, beq_eq_false_iff_ne, bne_eq_false_iff_eq, Bool.not_eq_false', Bool.and_eq_false_imp] at hb0
    refine r_skip ?_
    refine k_seq ?_
    refine r_seq ?_
    refine r_seq ?_
    show J X _ _ _
    refine r_region hG (by simp only [hT, tab55, lendArg.eq_def, lenLV.eq_def, cCompare, cShort, cScaled, cLose, cGain, cWhole, mx0, mx1, mx2, mx3, mx4, mx5, effOp, endCall, callOp, appendOp, sliceLV, Ty.fieldTy, Ty.fieldOf, Nat.reduceLT, Nat.reduceEqDiff, Nat.reduceAdd, Nat.reduceMul, Nat.reduceSub, Nat.reduceLeDiff, Nat.reduceBEq, Nat.reduceBNe, reduceIte, reduceDIte, reduceCtorEq]; rfl) ?_ ?_ -- R3
    · trivial
    refine k_seq ?_
    refine r_cond (by simp only [hT, tab55, lendArg.eq_def, lenLV.eq_def, mx0, mx1, mx2, mx3, mx4, mx5, effOp, endCall, callOp, appendOp, sliceLV, Ty.fieldTy, Ty.fieldOf, Nat.reduceLT, Nat.reduceEqDiff, Nat.reduceAdd, Nat.reduceMul, Nat.reduceSub, Nat.reduceLeDiff, Nat.reduceBEq, Nat.reduceBNe, reduceIte, reduceDIte, reduceCtorEq]; rfl) ?_ ?_
    · intro hb1
      try simp only [decide_eq_true_eq, decide_eq_false_iff_not, beq_iff_eq, bne_iff_ne, Bool.not_eq_true', Bool.and_eq_true] at hb1
      refine r_seq ?_
      show J X _ _ _
      refine r_region hG (by simp only [hT, tab55, lendArg.eq_def, lenLV.eq_def, cCompare, cShort, cScaled, cLose, cGain, cWhole, mx0, mx1, mx2, mx3, mx4, mx5, effOp, endCall, callOp, appendOp, sliceLV, Ty.fieldTy, Ty.fieldOf, Nat.reduceLT, Nat.reduceEqDiff, Nat.reduceAdd, Nat.reduceMul, Nat.reduceSub, Nat.reduceLeDiff, Nat.reduceBEq, Nat.reduceBNe, reduceIte, reduceDIte, reduceCtorEq]; rfl) ?_ ?_ -- R4
      · try simp only [and_true, true_and]
        exact ⟨⟨by omega, by omega⟩, hC.1.1, (div_one hC.2.1 hb0 hb1).1, by have := hC.2.2.2; omega⟩
      refine k_seq ?_
      refine r_seq ?_
      show J X _ _ _
      refine r_region hG (by simp only [hT, tab55, lendArg.eq_def, lenLV.eq_def, cCompare, cShort, cScaled, cLose, cGain, cWhole, mx0, mx1, mx2, mx3, mx4, mx5, effOp, endCall, callOp, appendOp, sliceLV, Ty.fieldTy, Ty.fieldOf, Nat.reduceLT, Nat.reduceEqDiff, Nat.reduceAdd, Nat.reduceMul, Nat.reduceSub, Nat.reduceLeDiff, Nat.reduceBEq, Nat.reduceBNe, reduceIte, reduceDIte, reduceCtorEq]; rfl) ?_ ?_ -- R5
      · trivial
      refine k_seq ?_
      refine r_ret ?_
      refine k_seq_ret ?_
      refine ⟨[62], ?_⟩
      simp only [hT, tab55, mr0, mr1, mr2, Nat.reduceLT, Nat.reduceEqDiff, Nat.reduceAdd, Nat.reduceMul, Nat.reduceSub, Nat.reduceLeDiff, Nat.reduceBEq, Nat.reduceBNe, reduceIte, reduceDIte, reduceCtorEq]
      exact (div_one hC.2.1 hb0 hb1).2
    · intro hb1
      simp only [beq_eq_false_iff_ne, ne_eq] at hb1
      obtain ⟨p, hp⟩ : ∃ p, List.length o = p + 2 := two_or_more hC.2.2.1 hb1
      obtain ⟨D, f⟩ : ∃ D : List Int, DivFix m o D p := ⟨_, DivFix.mk' hC.1 hC.2.1 hp (cmp_ge hb0) hC.2.2.2⟩
      have hDl := f.hDl
      have hcc := f.hc
      have hlm := f.hlm
      refine r_skip ?_
      refine k_seq ?_
      refine r_cut (fun (z : Int) => (⟨[(0, .l (.z (.slice (.int .u32)) m)), (1, .l (.z (.slice (.int .u32)) o)), (8, .l (.z (.int .u32) z))], []⟩ : AState)) (fun z => z = scaleOf o) ?_ ?_
      · show J X _ _ _
        refine r_region hG (by simp only [hT, tab55, lendArg.eq_def, lenLV.eq_def, cCompare, cShort, cScaled, cLose, cGain, cWhole, mx0, mx1, mx2, mx3, mx4, mx5, effOp, endCall, callOp, appendOp, sliceLV, Ty.fieldTy, Ty.fieldOf, Nat.reduceLT, Nat.reduceEqDiff, Nat.reduceAdd, Nat.reduceMul, Nat.reduceSub, Nat.reduceLeDiff, Nat.reduceBEq, Nat.reduceBNe, reduceIte, reduceDIte, reduceCtorEq]; rfl) ?_ ?_ -- R6
        · try simp only [and_true, true_and]
          have h := scale_code f.ho f.hp (by omega)
          exact ⟨h.1, h.2.1⟩
        show ∃ z, _
        simp only [ml0, ml1, Nat.reduceLT, Nat.reduceEqDiff, Nat.reduceAdd, Nat.reduceMul, Nat.reduceSub, Nat.reduceLeDiff, Nat.reduceBEq, Nat.reduceBNe, reduceIte, reduceDIte, reduceCtorEq]
        exact (scale_code f.ho f.hp (by omega)).2.2
      rintro d hd
      try dsimp only at hd
      subst hd
      refine r_seq ?_
      show J X _ _ _
      refine r_draw hG (by simp only [hT, mt0, tab55, lendArg.eq_def, lenLV.eq_def, cCompare, cShort, cScaled, cLose, cGain, cWhole, mx0, mx1, mx2, mx3, mx4, mx5, effOp, endCall, callOp, appendOp, sliceLV, Ty.fieldTy, Ty.fieldOf, Nat.reduceLT, Nat.reduceEqDiff, Nat.reduceAdd, Nat.reduceMul, Nat.reduceSub, Nat.reduceLeDiff, Nat.reduceBEq, Nat.reduceBNe, reduceIte, reduceDIte, reduceCtorEq]; rfl) (by kernel_rfl) (by rfl) (by rfl) ?_ ?_ -- R7
      · try simp only [and_true, true_and]
        exact div_side7 f
      refine k_seq ?_
      refine r_seq ?_
      show J X _ _ _
      refine r_region hG (by simp only [hT, tab55, lendArg.eq_def, lenLV.eq_def, cCompare, cShort, cScaled, cLose, cGain, cWhole, mx0, mx1, mx2, mx3, mx4, mx5, effOp, endCall, callOp, appendOp, sliceLV, Ty.fieldTy, Ty.fieldOf, Nat.reduceLT, Nat.reduceEqDiff, Nat.reduceAdd, Nat.reduceMul, Nat.reduceSub, Nat.reduceLeDiff, Nat.reduceBEq, Nat.reduceBNe, reduceIte, reduceDIte, reduceCtorEq]; rfl) ?_ ?_ -- R8
      · trivial
      refine k_seq ?_
      refine r_seq ?_
      show J X _ _ _
      refine r_region hG (by simp only [hT, tab55, lendArg.eq_def, lenLV.eq_def, cCompare, cShort, cScaled, cLose, cGain, cWhole, mx0, mx1, mx2, mx3, mx4, mx5, effOp, endCall, callOp, appendOp, sliceLV, Ty.fieldTy, Ty.fieldOf, Nat.reduceLT, Nat.reduceEqDiff, Nat.reduceAdd, Nat.reduceMul, Nat.reduceSub, Nat.reduceLeDiff, Nat.reduceBEq, Nat.reduceBNe, reduceIte, reduceDIte, reduceCtorEq]; rfl) ?_ ?_ -- R9
      · try simp only [and_true, true_and]
        exact div_side9 f
      refine k_seq ?_
      refine r_seq ?_
      refine r_seq ?_
      show J X _ _ _
      refine r_region hG (by simp only [hT, tab55, lendArg.eq_def, lenLV.eq_def, cCompare, cShort, cScaled, cLose, cGain, cWhole, mx0, mx1, mx2, mx3, mx4, mx5, effOp, endCall, callOp, appendOp, sliceLV, Ty.fieldTy, Ty.fieldOf, Nat.reduceLT, Nat.reduceEqDiff, Nat.reduceAdd, Nat.reduceMul, Nat.reduceSub, Nat.reduceLeDiff, Nat.reduceBEq, Nat.reduceBNe, reduceIte, reduceDIte, reduceCtorEq]; rfl) ?_ ?_ -- R10
      · trivial
      refine k_seq ?_
      refine j_block ?_
      refine j_loop (fun (z : Nat × List Int × List Int) => (⟨[(8, .l (.z (.int .u32) (scaleOf o))), (9, .l (.ownS 1392)), (10, .l (.z (.slice (.int .u32)) D)), (11, .l (.z (.int .i64) (List.length o : Int))), (12, .l (.ownS 62)), (13, .l (.z (.int .i64) ((z.1 : Int) - 1)))], [(1392, .arr (.int .u32) 82 z.2.1), (62, .arr (.int .u32) 82 z.2.2)]⟩ : AState)) (fun z => IterPhi (valL m * scaleOf o) (valL D) (List.length m) (p + 2) z.1 z.2.1 z.2.2) (fun z => z.1) (List.length m + 1 - List.length o, padL (valL m * scaleOf o).toNat (List.length m + 1), List.replicate (List.length m + 1 - List.length o) 0) ?_ ?_ ?_
      · simp only [ml0, ml1, Nat.reduceLT, Nat.reduceEqDiff, Nat.reduceAdd, Nat.reduceMul, Nat.reduceSub, Nat.reduceLeDiff, Nat.reduceBEq, Nat.reduceBNe, reduceIte, reduceDIte, reduceCtorEq]
        exact div_le0 f
      · exact iter_start f
      · rintro ⟨k, T, Q⟩ hz
        try dsimp only at hz
        have hz1 := hz.1
        have hz3 := hz.2.2.1
        have hz5 := hz.2.2.2.2.1
        refine r_seq ?_
        refine r_seq ?_
        show J X _ _ _
        refine r_region hG (by simp only [hT, tab55, lendArg.eq_def, lenLV.eq_def, cCompare, cShort, cScaled, cLose, cGain, cWhole, mx0, mx1, mx2, mx3, mx4, mx5, effOp, endCall, callOp, appendOp, sliceLV, Ty.fieldTy, Ty.fieldOf, Nat.reduceLT, Nat.reduceEqDiff, Nat.reduceAdd, Nat.reduceMul, Nat.reduceSub, Nat.reduceLeDiff, Nat.reduceBEq, Nat.reduceBNe, reduceIte, reduceDIte, reduceCtorEq]; rfl) ?_ ?_ -- R11
        · trivial
        refine k_seq ?_
        refine r_cond (by simp only [hT, tab55, lendArg.eq_def, lenLV.eq_def, mx0, mx1, mx2, mx3, mx4, mx5, effOp, endCall, callOp, appendOp, sliceLV, Ty.fieldTy, Ty.fieldOf, Nat.reduceLT, Nat.reduceEqDiff, Nat.reduceAdd, Nat.reduceMul, Nat.reduceSub, Nat.reduceLeDiff, Nat.reduceBEq, Nat.reduceBNe, reduceIte, reduceDIte, reduceCtorEq]; rfl) ?_ ?_
        · intro hb2
          try simp only [decide_eq_true_eq] at hb2
          obtain ⟨j, rfl⟩ : ∃ j, k = j + 1 := ⟨k - 1, by omega⟩
          have ej : (((j + 1 : Nat)) : Int) - 1 = (j : Int) := by omega
          rw [ej]
          have hw17 : (j : Int).toNat < List.length T := by omega
          have hw19 : ∀ v : Int, (j : Int).toNat < (List.take (j : Int).toNat T ++ put (List.drop (j : Int).toNat T) (List.length D + 1) v).length := fun v => by rw [win_len _ (by rw [hDl]; omega)]; exact hw17
          have ej0 : IntKind.i64.wrap ((j : Int) + (List.length o : Int)) = ((j + (p + 2) : Nat) : Int) := by rw [wi (by omega) (by omega)]; omega
          have ej1 : IntKind.i64.wrap (((j + (p + 2) : Nat) : Int) - 1) = ((j + (p + 1) : Nat) : Int) := by rw [wi (by omega) (by omega)]; omega
          have ej2 : IntKind.i64.wrap (((j + (p + 2) : Nat) : Int) - 2) = ((j + p : Nat) : Int) := by rw [wi (by omega) (by omega)]; omega
          have g := mk_guess (j := j) (p := p) hz.2.1 f.hL f.hDl f.hVp (by omega) hz.2.2.2.2.2.2
          have hD1 := (f.hL.getD (p + 1)).2
          have hTj : j + (p + 3) ≤ List.length T := by omega
          refine r_skip ?_
          refine k_seq ?_
          refine r_seq ?_
          refine j_block ?_
          refine r_cut (fun (z : Int) => (⟨[(8, .l (.z (.int .u32) (scaleOf o))), (9, .l (.ownS 1392)), (10, .l (.z (.slice (.int .u32)) D)), (11, .l (.z (.int .i64) (List.length o : Int))), (12, .l (.ownS 62)), (13, .l (.z (.int .i64) (j : Int))), (14, .l (.z (.int .u64) z))], [(1392, .arr (.int .u32) 82 T), (62, .arr (.int .u32) 82 Q)]⟩ : AState)) (fun z => z = T.getD (j + (p + 2)) 0 * LB + T.getD (j + (p + 1)) 0 ∧ z < LB * LB) ?_ ?_
          · show J X _ _ _
            refine r_draw hG (by simp only [hT, mt0, tab55, lendArg.eq_def, lenLV.eq_def, cCompare, cShort, cScaled, cLose, cGain, cWhole, mx0, mx1, mx2, mx3, mx4, mx5, effOp, endCall, callOp, appendOp, sliceLV, Ty.fieldTy, Ty.fieldOf, Nat.reduceLT, Nat.reduceEqDiff, Nat.reduceAdd, Nat.reduceMul, Nat.reduceSub, Nat.reduceLeDiff, Nat.reduceBEq, Nat.reduceBNe, reduceIte, reduceDIte, reduceCtorEq]; rfl) (by kernel_rfl) (by rfl) (by rfl) ?_ ?_ -- R13
            · try simp only [and_true, true_and]
              simp only [ej0, ej1, Int.toNat_natCast]
              exact ⟨⟨by omega, by omega⟩, by omega, ⟨by omega, by omega⟩, by omega⟩
            show ∃ z, _
            simp only [ml0, ml1, Nat.reduceLT, Nat.reduceEqDiff, Nat.reduceAdd, Nat.reduceMul, Nat.reduceSub, Nat.reduceLeDiff, Nat.reduceBEq, Nat.reduceBNe, reduceIte, reduceDIte, reduceCtorEq]
            simp only [f.en1, f.en2, ej0, ej1, ej2, Int.toNat_natCast, nth32]
            have := top_code (hz.2.1.getD (j + (p + 2))) (hz.2.1.getD (j + (p + 1)))
            rw [this.1]
            exact ⟨rfl, this.2.1⟩
          rintro top ht
          try dsimp only at ht
          have g2 := g
          rw [← ht.1] at g2
          have ht0 := g2.htop
          refine r_cut (fun (z : Int) => (⟨[(8, .l (.z (.int .u32) (scaleOf o))), (9, .l (.ownS 1392)), (10, .l (.z (.slice (.int .u32)) D)), (11, .l (.z (.int .i64) (List.length o : Int))), (12, .l (.ownS 62)), (13, .l (.z (.int .i64) (j : Int))), (14, .l (.z (.int .u64) top)), (15, .l (.z (.int .u64) z))], [(1392, .arr (.int .u32) 82 T), (62, .arr (.int .u32) 82 Q)]⟩ : AState)) (fun z => z = min (top / D.getD (p + 1) 0) 999999999) ?_ ?_
          · show J X _ _ _
            refine r_region hG (by simp only [hT, tab55, lendArg.eq_def, lenLV.eq_def, cCompare, cShort, cScaled, cLose, cGain, cWhole, mx0, mx1, mx2, mx3, mx4, mx5, effOp, endCall, callOp, appendOp, sliceLV, Ty.fieldTy, Ty.fieldOf, Nat.reduceLT, Nat.reduceEqDiff, Nat.reduceAdd, Nat.reduceMul, Nat.reduceSub, Nat.reduceLeDiff, Nat.reduceBEq, Nat.reduceBNe, reduceIte, reduceDIte, reduceCtorEq]; rfl) ?_ ?_ -- R14
            · try simp only [and_true, true_and]
              simp only [f.en1, f.en2, ej0, ej1, ej2, Int.toNat_natCast, nth32]
              exact ⟨⟨by omega, by omega⟩, (quo_code ht0 ht.2 g.hD1 hD1).2⟩
            show ∃ z, _
            simp only [ml0, ml1, Nat.reduceLT, Nat.reduceEqDiff, Nat.reduceAdd, Nat.reduceMul, Nat.reduceSub, Nat.reduceLeDiff, Nat.reduceBEq, Nat.reduceBNe, reduceIte, reduceDIte, reduceCtorEq]
            simp only [f.en1, f.en2, ej0, ej1, ej2, Int.toNat_natCast, nth32]
            rw [(quo_code ht0 ht.2 g.hD1 hD1).1]
          rintro gs hg
          try dsimp only at hg
          refine r_seq ?_
          refine j_block ?_
          refine j_loop (fun (z : Int) => (⟨[(8, .l (.z (.int .u32) (scaleOf o))), (9, .l (.ownS 1392)), (10, .l (.z (.slice (.int .u32)) D)), (11, .l (.z (.int .i64) (List.length o : Int))), (12, .l (.ownS 62)), (13, .l (.z (.int .i64) (j : Int))), (14, .l (.z (.int .u64) top)), (15, .l (.z (.int .u64) z))], [(1392, .arr (.int .u32) 82 T), (62, .arr (.int .u32) 82 Q)]⟩ : AState)) (fun z => QPhi (valL ((T.drop j).take (p + 3))) (valL D) top (D.getD (p + 1) 0) z) (fun z => z.toNat) gs ?_ ?_ ?_
          · simp only [ml0, ml1, Nat.reduceLT, Nat.reduceEqDiff, Nat.reduceAdd, Nat.reduceMul, Nat.reduceSub, Nat.reduceLeDiff, Nat.reduceBEq, Nat.reduceBNe, reduceIte, reduceDIte, reduceCtorEq]
          · exact q_start g2 hg
          · rintro q hq
            try dsimp only at hq
            refine r_seq ?_
            refine r_seq ?_
            show J X _ _ _
            refine r_draw hG (by simp only [hT, mt0, tab55, lendArg.eq_def, lenLV.eq_def, cCompare, cShort, cScaled, cLose, cGain, cWhole, mx0, mx1, mx2, mx3, mx4, mx5, effOp, endCall, callOp, appendOp, sliceLV, Ty.fieldTy, Ty.fieldOf, Nat.reduceLT, Nat.reduceEqDiff, Nat.reduceAdd, Nat.reduceMul, Nat.reduceSub, Nat.reduceLeDiff, Nat.reduceBEq, Nat.reduceBNe, reduceIte, reduceDIte, reduceCtorEq]; rfl) (by kernel_rfl) (by rfl) (by rfl) ?_ ?_ -- R15
            · try simp only [and_true, true_and]
              simp only [f.en1, f.en2, ej0, ej1, ej2, Int.toNat_natCast, nth32]
              exact ⟨⟨by omega, by omega⟩, ⟨by omega, by omega⟩, ⟨by omega, by omega⟩, by omega, fun h => h, fun h => ⟨h, by omega, by omega⟩, fun h => h⟩
            refine k_seq ?_
            refine r_cond (by simp only [hT, tab55, lendArg.eq_def, lenLV.eq_def, mx0, mx1, mx2, mx3, mx4, mx5, effOp, endCall, callOp, appendOp, sliceLV, Ty.fieldTy, Ty.fieldOf, Nat.reduceLT, Nat.reduceEqDiff, Nat.reduceAdd, Nat.reduceMul, Nat.reduceSub, Nat.reduceLeDiff, Nat.reduceBEq, Nat.reduceBNe, reduceIte, reduceDIte, reduceCtorEq]; rfl) ?_ ?_
            · intro hb3
              try simp only [decide_eq_true_eq, decide_eq_false_iff_not, beq_iff_eq, bne_iff_ne, Bool.not_eq_true', Bool.and_eq_true] at hb3
              refine r_skip ?_
              refine k_seq ?_
              refine j_block ?_
              show J X _ _ _
              refine r_region hG (by simp only [hT, tab55, lendArg.eq_def, lenLV.eq_def, cCompare, cShort, cScaled, cLose, cGain, cWhole, mx0, mx1, mx2, mx3, mx4, mx5, effOp, endCall, callOp, appendOp, sliceLV, Ty.fieldTy, Ty.fieldOf, Nat.reduceLT, Nat.reduceEqDiff, Nat.reduceAdd, Nat.reduceMul, Nat.reduceSub, Nat.reduceLeDiff, Nat.reduceBEq, Nat.reduceBNe, reduceIte, reduceDIte, reduceCtorEq]; rfl) ?_ ?_ -- R16
              · trivial
              refine k_block ?_
              show ∃ z, _
              simp only [ml0, ml1, Nat.reduceLT, Nat.reduceEqDiff, Nat.reduceAdd, Nat.reduceMul, Nat.reduceSub, Nat.reduceLeDiff, Nat.reduceBEq, Nat.reduceBNe, reduceIte, reduceDIte, reduceCtorEq]
              simp only [f.en1, f.en2, ej0, ej1, ej2, Int.toNat_natCast, nth32] at hb3
              exact q_next g2 ht.2 hD1 hq hb3
            · intro hb3
              try simp only [decide_eq_true_eq, decide_eq_false_iff_not, beq_eq_false_iff_ne, bne_eq_false_iff_eq, Bool.not_eq_false', Bool.and_eq_false_imp] at hb3
              refine r_exit ?_
              refine k_seq_exit ?_
              refine k_round_exit ?_
              refine k_block_exit ?_
              refine k_seq ?_
              refine r_cut (fun (z : Int × List Int) => (⟨[(8, .l (.z (.int .u32) (scaleOf o))), (9, .l (.ownS 1392)), (10, .l (.z (.slice (.int .u32)) D)), (11, .l (.z (.int .i64) (List.length o : Int))), (12, .l (.ownS 62)), (13, .l (.z (.int .i64) (j : Int))), (15, .l (.z (.int .u64) z.1))], [(1392, .arr (.int .u32) 82 z.2), (62, .arr (.int .u32) 82 Q)]⟩ : AState)) (fun z => z.1 = valL ((T.drop j).take (p + 3)) / valL D ∧ z.2 = T.take j ++ put (T.drop j) (p + 3) (valL ((T.drop j).take (p + 3)) - z.1 * valL D)) ?_ ?_
              · refine r_seq ?_
                show J X _ _ _
                refine r_region hG (by simp only [hw17, hT, tab55, lendArg.eq_def, lenLV.eq_def, cCompare, cShort, cScaled, cLose, cGain, cWhole, mx0, mx1, mx2, mx3, mx4, mx5, effOp, endCall, callOp, appendOp, sliceLV, Ty.fieldTy, Ty.fieldOf, Nat.reduceLT, Nat.reduceEqDiff, Nat.reduceAdd, Nat.reduceMul, Nat.reduceSub, Nat.reduceLeDiff, Nat.reduceBEq, Nat.reduceBNe, reduceIte, reduceDIte, reduceCtorEq]; rfl) ?_ ?_ -- R17
                · try simp only [and_true, true_and]
                  simp only [Int.toNat_natCast]
                  exact ⟨⟨by omega, by omega⟩, ⟨hz.2.1.drop j, f.hL, ⟨hq.2.2.2, hq.2.1⟩, by rw [hDl, List.length_drop]; omega, by rw [hDl]; unfold CAP; omega⟩, by rw [List.length_take]; omega⟩
                refine k_seq ?_
                refine r_cond (by simp only [hT, tab55, lendArg.eq_def, lenLV.eq_def, mx0, mx1, mx2, mx3, mx4, mx5, effOp, endCall, callOp, appendOp, sliceLV, Ty.fieldTy, Ty.fieldOf, Nat.reduceLT, Nat.reduceEqDiff, Nat.reduceAdd, Nat.reduceMul, Nat.reduceSub, Nat.reduceLeDiff, Nat.reduceBEq, Nat.reduceBNe, reduceIte, reduceDIte, reduceCtorEq]; rfl) ?_ ?_
                · intro hb4
                  try simp only [decide_eq_true_eq, decide_eq_false_iff_not, beq_iff_eq, bne_iff_ne, Bool.not_eq_true', Bool.and_eq_true] at hb4
                  refine r_seq ?_
                  show J X _ _ _
                  refine r_region hG (by simp only [hT, tab55, lendArg.eq_def, lenLV.eq_def, cCompare, cShort, cScaled, cLose, cGain, cWhole, mx0, mx1, mx2, mx3, mx4, mx5, effOp, endCall, callOp, appendOp, sliceLV, Ty.fieldTy, Ty.fieldOf, Nat.reduceLT, Nat.reduceEqDiff, Nat.reduceAdd, Nat.reduceMul, Nat.reduceSub, Nat.reduceLeDiff, Nat.reduceBEq, Nat.reduceBNe, reduceIte, reduceDIte, reduceCtorEq]; rfl) ?_ ?_ -- R18
                  · trivial
                  refine k_seq ?_
                  show J X _ _ _
                  refine r_region hG (by simp only [hw17, hw19, hT, tab55, lendArg.eq_def, lenLV.eq_def, cCompare, cShort, cScaled, cLose, cGain, cWhole, mx0, mx1, mx2, mx3, mx4, mx5, effOp, endCall, callOp, appendOp, sliceLV, Ty.fieldTy, Ty.fieldOf, Nat.reduceLT, Nat.reduceEqDiff, Nat.reduceAdd, Nat.reduceMul, Nat.reduceSub, Nat.reduceLeDiff, Nat.reduceBEq, Nat.reduceBNe, reduceIte, reduceDIte, reduceCtorEq]; rfl) ?_ ?_ -- R19
                  · try simp only [and_true, true_and]
                    simp only [Int.toNat_natCast, f.hDl3]
                    rw [(take_win _ hTj).1, (take_win _ hTj).2, win_len _ hTj]
                    exact ⟨⟨by omega, by omega⟩, ⟨put_lim (hz.2.1.drop j) _ _, f.hL, by rw [put_len _ (by rw [List.length_drop]; omega), List.length_drop]; omega, by rw [hDl]; unfold CAP; omega⟩, by rw [List.length_take]; omega⟩
                  show ∃ z, _
                  simp only [ml0, ml1, Nat.reduceLT, Nat.reduceEqDiff, Nat.reduceAdd, Nat.reduceMul, Nat.reduceSub, Nat.reduceLeDiff, Nat.reduceBEq, Nat.reduceBNe, reduceIte, reduceDIte, reduceCtorEq]
                  simp only [Int.toNat_natCast, f.hDl3] at hb4 ⊢
                  simp only [f.en1, f.en2, ej0, ej1, ej2, Int.toNat_natCast, nth32] at hb3
                  have hst := q_stop g2 ht.2 hD1 hq hb3
                  first | (have hq1 := hst.1 hb4; have hqn := g.qnn; have hql := g.qlt; have hB : LB = 1000000000 := rfl; rw [w64 (x := q - 1) (by omega) (by omega), lose_back hTj]; exact ⟨hq1, rfl⟩) | exact ⟨hst.2 hb4, trivial⟩ | exact ⟨hst.2 hb4, rfl⟩
                · intro hb4
                  try simp only [decide_eq_true_eq, decide_eq_false_iff_not, beq_eq_false_iff_ne, bne_eq_false_iff_eq, Bool.not_eq_false', Bool.and_eq_false_imp] at hb4
                  refine r_skip ?_
                  show ∃ z, _
                  simp only [ml0, ml1, Nat.reduceLT, Nat.reduceEqDiff, Nat.reduceAdd, Nat.reduceMul, Nat.reduceSub, Nat.reduceLeDiff, Nat.reduceBEq, Nat.reduceBNe, reduceIte, reduceDIte, reduceCtorEq]
                  simp only [Int.toNat_natCast, f.hDl3] at hb4 ⊢
                  simp only [f.en1, f.en2, ej0, ej1, ej2, Int.toNat_natCast, nth32] at hb3
                  have hst := q_stop g2 ht.2 hD1 hq hb3
                  first | (have hq1 := hst.1 hb4; have hqn := g.qnn; have hql := g.qlt; have hB : LB = 1000000000 := rfl; rw [w64 (x := q - 1) (by omega) (by omega), lose_back hTj]; exact ⟨hq1, rfl⟩) | exact ⟨hst.2 hb4, trivial⟩ | exact ⟨hst.2 hb4, rfl⟩
              rintro ⟨q2, Tn⟩ hq2
              try dsimp only at hq2
              show J X _ _ _
              refine r_region hG (by simp only [hT, tab55, lendArg.eq_def, lenLV.eq_def, cCompare, cShort, cScaled, cLose, cGain, cWhole, mx0, mx1, mx2, mx3, mx4, mx5, effOp, endCall, callOp, appendOp, sliceLV, Ty.fieldTy, Ty.fieldOf, Nat.reduceLT, Nat.reduceEqDiff, Nat.reduceAdd, Nat.reduceMul, Nat.reduceSub, Nat.reduceLeDiff, Nat.reduceBEq, Nat.reduceBNe, reduceIte, reduceDIte, reduceCtorEq]; rfl) ?_ ?_ -- R20
              · try simp only [and_true, true_and]
                exact ⟨⟨by omega, by omega⟩, by omega⟩
              refine k_block ?_
              refine k_seq ?_
              show J X _ _ _
              refine r_region hG (by simp only [hT, tab55, lendArg.eq_def, lenLV.eq_def, cCompare, cShort, cScaled, cLose, cGain, cWhole, mx0, mx1, mx2, mx3, mx4, mx5, effOp, endCall, callOp, appendOp, sliceLV, Ty.fieldTy, Ty.fieldOf, Nat.reduceLT, Nat.reduceEqDiff, Nat.reduceAdd, Nat.reduceMul, Nat.reduceSub, Nat.reduceLeDiff, Nat.reduceBEq, Nat.reduceBNe, reduceIte, reduceDIte, reduceCtorEq]; rfl) ?_ ?_ -- R12
              · trivial
              show ∃ z, _
              simp only [ml0, ml1, Nat.reduceLT, Nat.reduceEqDiff, Nat.reduceAdd, Nat.reduceMul, Nat.reduceSub, Nat.reduceLeDiff, Nat.reduceBEq, Nat.reduceBNe, reduceIte, reduceDIte, reduceCtorEq]
              rw [wi (x := (j : Int) - 1) (by omega) (by omega), hq2.2, Int.toNat_natCast, w32 (by rw [hq2.1]; exact g.qnn) (by rw [hq2.1]; have := g.qlt; have hB : LB = 1000000000 := rfl; omega)]
              exact ⟨j, rfl, iter_next f.hL f.hDl f.hVp f.hlm hz hq2.1, by omega⟩
        · intro hb2
          try simp only [decide_eq_true_eq, decide_eq_false_iff_not, beq_eq_false_iff_ne, bne_eq_false_iff_eq, Bool.not_eq_false', Bool.and_eq_false_imp] at hb2
          refine r_exit ?_
          refine k_seq_exit ?_
          refine k_round_exit ?_
          refine k_block_exit ?_
          refine k_seq ?_
          refine r_seq ?_
          show J X _ _ _
          refine r_region hG (by simp only [hT, tab55, lendArg.eq_def, lenLV.eq_def, cCompare, cShort, cScaled, cLose, cGain, cWhole, mx0, mx1, mx2, mx3, mx4, mx5, effOp, endCall, callOp, appendOp, sliceLV, Ty.fieldTy, Ty.fieldOf, Nat.reduceLT, Nat.reduceEqDiff, Nat.reduceAdd, Nat.reduceMul, Nat.reduceSub, Nat.reduceLeDiff, Nat.reduceBEq, Nat.reduceBNe, reduceIte, reduceDIte, reduceCtorEq]; rfl) ?_ ?_ -- R21
          · try simp only [and_true, true_and]
            exact div_side21 f hz (by omega)
          refine k_seq ?_
          refine r_seq ?_
          show J X _ _ _
          refine r_region hG (by simp only [hT, tab55, lendArg.eq_def, lenLV.eq_def, cCompare, cShort, cScaled, cLose, cGain, cWhole, mx0, mx1, mx2, mx3, mx4, mx5, effOp, endCall, callOp, appendOp, sliceLV, Ty.fieldTy, Ty.fieldOf, Nat.reduceLT, Nat.reduceEqDiff, Nat.reduceAdd, Nat.reduceMul, Nat.reduceSub, Nat.reduceLeDiff, Nat.reduceBEq, Nat.reduceBNe, reduceIte, reduceDIte, reduceCtorEq]; rfl) ?_ ?_ -- R22
          · trivial
          refine k_seq ?_
          refine r_ret ?_
          refine ⟨[62], ?_⟩
          simp only [hT, tab55, mr0, mr1, mr2, Nat.reduceLT, Nat.reduceEqDiff, Nat.reduceAdd, Nat.reduceMul, Nat.reduceSub, Nat.reduceLeDiff, Nat.reduceBEq, Nat.reduceBNe, reduceIte, reduceDIte, reduceCtorEq]
          obtain rfl : k = 0 := by omega
          exact div_fin f hz

end Go.Proofs.YtkgbdpmhdplddaaDoor
end

section
/- The functions of the package exact, one after the other: each meets its contract. -/
set_option linter.unusedSimpArgs false
set_option linter.unusedVariables false
set_option maxRecDepth 100000
namespace Go.Proofs.YtkgbdpmhdplddaaDoor
open Go Go.Cm Go.Proofs

def tab35 (B : Base) : Tab := { types := [(3, (.int .i64)), (4, .bool), (53, (.slice (.int .u32))), (55, (.st (.pair .bool (.slice (.int .u32))))), (82, (.int .u32)), (83, (.int .u64))], elems := [(53, 82)], cons := [(49, cWhole), (55, cDivided), (59, cValue)], hint := [], N := 68, base := B }
theorem good35 {B : Base} (hB : Tabs B) : MGood Tryd.prog (tab35 B) := ⟨⟨types_cons ty3 (types_cons ty4 (types_cons ty53 (types_cons ty55 (types_cons ty82 (types_cons ty83 (types_nil)))))), elems_cons (by kernel_rfl) (elems_nil), by simp only [tab35, ioB]; omega⟩, cons_ok (cals_cons (cal_ok Tryd.func49 (by kernel_rfl) rfl (valid49 hB)) (cals_cons (cal_ok Tryd.func55 (by kernel_rfl) rfl (valid55 hB)) (cals_cons (cal_ok Tryd.func59 (by kernel_rfl) rfl (valid59 hB)) (cals_nil)))), by kernel_rfl⟩
def cGcdW : Con := fun l os => match l, os with
  | [.z (.st (.pair .bool (.slice (.int .u32)))) x, .z (.st (.pair .bool (.slice (.int .u32)))) y], [] => some (GcdPre x y, [.z (.st (.pair .bool (.slice (.int .u32)))) (enc (gcdI (dec x) (dec y)))], [])
  | _, _ => none

theorem valid35 {B : Base} (hB : Tabs B) : Valid B Tryd.prog 35 cGcdW := by
  refine valid_of_J (T := tab35 B) (good35 hB).tab Tryd.func35 rfl rfl rfl ?_
  intro args os C rs os' hc hC
  unfold cGcdW at hc
  split at hc
  case h_2 => cases hc
  rename_i x y
  cases hc
  refine ⟨by simp only [List.length_cons, List.length_nil, tab35]; omega, rfl, ?_⟩
  intro X hP hT hr
  have hG : MGood X.P X.T := by rw [hP, hT]; exact good35 hB
  simp only [Tryd.f35, argEnv, ioList, ioB]
  refine r_seq ?_
  refine r_region hG (by simp only [hT, tab35, cDivided, cWhole, cValue, mx0, mx1, mx2, mx3, mx4, mx5, effOp, endCall, callOp, appendOp, sliceLV, Ty.fieldTy, Ty.fieldOf, Nat.reduceLT, Nat.reduceEqDiff, Nat.reduceAdd, Nat.reduceMul, Nat.reduceSub, Nat.reduceLeDiff, Nat.reduceBEq, Nat.reduceBNe, reduceIte, reduceDIte, reduceCtorEq]; rfl) ?_ ?_ -- R0
  · trivial
  refine k_seq ?_
  refine r_seq ?_
  refine r_draw hG (by simp only [hT, mt0, tab35, cDivided, cWhole, cValue, mx0, mx1, mx2, mx3, mx4, mx5, effOp, endCall, callOp, appendOp, sliceLV, Ty.fieldTy, Ty.fieldOf, Nat.reduceLT, Nat.reduceEqDiff, Nat.reduceAdd, Nat.reduceMul, Nat.reduceSub, Nat.reduceLeDiff, Nat.reduceBEq, Nat.reduceBNe, reduceIte, reduceDIte, reduceCtorEq]; rfl) (by kernel_rfl) (by rfl) (by rfl) ?_ ?_ -- R1
  · trivial
  refine k_seq ?_
  refine r_seq ?_
  refine j_block ?_
  refine j_loop (fun (z : List Int × List Int) => (⟨[(4, .l (.ownP 4 0)), (5, .l (.z (.slice (.int .u32)) z.1)), (6, .l (.z (.slice (.int .u32)) z.2))], [(4, .box 55 [.z .bool false, .val (.slice none 0 0)])]⟩ : AState)) (fun z => GPhi x y z.1 z.2) (fun z => (valL z.2).toNat) (x.2, y.2) ?_ ?_ ?_
  · simp only [ml0, ml1, Nat.reduceLT, Nat.reduceEqDiff, Nat.reduceAdd, Nat.reduceMul, Nat.reduceSub, Nat.reduceLeDiff, Nat.reduceBEq, Nat.reduceBNe, reduceIte, reduceDIte, reduceCtorEq]
  · exact GPhi.start hC
  · rintro ⟨u, v⟩ hz
    try dsimp only at hz
    have hcc : 2 * (List.length x.2 + List.length y.2) + 4 < 1000000000000 := hC.hc
    refine r_seq ?_
    refine r_seq ?_
    refine r_region hG (by simp only [hT, tab35, cDivided, cWhole, cValue, mx0, mx1, mx2, mx3, mx4, mx5, effOp, endCall, callOp, appendOp, sliceLV, Ty.fieldTy, Ty.fieldOf, Nat.reduceLT, Nat.reduceEqDiff, Nat.reduceAdd, Nat.reduceMul, Nat.reduceSub, Nat.reduceLeDiff, Nat.reduceBEq, Nat.reduceBNe, reduceIte, reduceDIte, reduceCtorEq]; rfl) ?_ ?_ -- R2
    · trivial
    refine k_seq ?_
    refine r_cond (by simp only [hT, tab35, mx0, mx1, mx2, mx3, mx4, mx5, effOp, endCall, callOp, appendOp, sliceLV, Ty.fieldTy, Ty.fieldOf, Nat.reduceLT, Nat.reduceEqDiff, Nat.reduceAdd, Nat.reduceMul, Nat.reduceSub, Nat.reduceLeDiff, Nat.reduceBEq, Nat.reduceBNe, reduceIte, reduceDIte, reduceCtorEq]; rfl) ?_ ?_
    · intro hb0
      try simp only [decide_eq_true_eq, decide_eq_false_iff_not, beq_iff_eq, bne_iff_ne, Bool.not_eq_true', Bool.and_eq_true] at hb0
      refine r_skip ?_
      refine k_seq ?_
      refine j_block ?_
      refine r_seq ?_
      refine r_region hG (by simp only [hT, tab35, cDivided, cWhole, cValue, mx0, mx1, mx2, mx3, mx4, mx5, effOp, endCall, callOp, appendOp, sliceLV, Ty.fieldTy, Ty.fieldOf, Nat.reduceLT, Nat.reduceEqDiff, Nat.reduceAdd, Nat.reduceMul, Nat.reduceSub, Nat.reduceLeDiff, Nat.reduceBEq, Nat.reduceBNe, reduceIte, reduceDIte, reduceCtorEq]; rfl) ?_ ?_ -- R3
      · try simp only [and_true, true_and]
        exact hz.side3 hC (ne_of_len (by omega))
      refine k_seq ?_
      refine r_region hG (by simp only [hT, tab35, cDivided, cWhole, cValue, mx0, mx1, mx2, mx3, mx4, mx5, effOp, endCall, callOp, appendOp, sliceLV, Ty.fieldTy, Ty.fieldOf, Nat.reduceLT, Nat.reduceEqDiff, Nat.reduceAdd, Nat.reduceMul, Nat.reduceSub, Nat.reduceLeDiff, Nat.reduceBEq, Nat.reduceBNe, reduceIte, reduceDIte, reduceCtorEq]; rfl) ?_ ?_ -- R4
      · try simp only [and_true, true_and]
        exact hz.side4 hC (ne_of_len (by omega))
      refine k_block ?_
      show ∃ z, _
      simp only [ml0, ml1, Nat.reduceLT, Nat.reduceEqDiff, Nat.reduceAdd, Nat.reduceMul, Nat.reduceSub, Nat.reduceLeDiff, Nat.reduceBEq, Nat.reduceBNe, reduceIte, reduceDIte, reduceCtorEq]
      exact hz.next hC (ne_of_len (by omega))
    · intro hb0
      try simp only [decide_eq_true_eq, decide_eq_false_iff_not, beq_eq_false_iff_ne, bne_eq_false_iff_eq, Bool.not_eq_false', Bool.and_eq_false_imp] at hb0
      refine r_exit ?_
      refine k_seq_exit ?_
      refine k_round_exit ?_
      refine k_block_exit ?_
      refine k_seq ?_
      refine r_seq ?_
      refine r_seq ?_
      refine r_region hG (by simp only [hT, tab35, cDivided, cWhole, cValue, mx0, mx1, mx2, mx3, mx4, mx5, effOp, endCall, callOp, appendOp, sliceLV, Ty.fieldTy, Ty.fieldOf, Nat.reduceLT, Nat.reduceEqDiff, Nat.reduceAdd, Nat.reduceMul, Nat.reduceSub, Nat.reduceLeDiff, Nat.reduceBEq, Nat.reduceBNe, reduceIte, reduceDIte, reduceCtorEq]; rfl) ?_ ?_ -- R5
      · trivial
      refine k_seq ?_
      refine r_cond (by simp only [hT, tab35, mx0, mx1, mx2, mx3, mx4, mx5, effOp, endCall, callOp, appendOp, sliceLV, Ty.fieldTy, Ty.fieldOf, Nat.reduceLT, Nat.reduceEqDiff, Nat.reduceAdd, Nat.reduceMul, Nat.reduceSub, Nat.reduceLeDiff, Nat.reduceBEq, Nat.reduceBNe, reduceIte, reduceDIte, reduceCtorEq]; rfl) ?_ ?_
      · intro hb1
        try simp only [decide_eq_true_eq, decide_eq_false_iff_not, beq_iff_eq, bne_iff_ne, Bool.not_eq_true', Bool.and_eq_true] at hb1
        refine r_seq ?_
        refine r_region hG (by simp only [hT, tab35, cDivided, cWhole, cValue, mx0, mx1, mx2, mx3, mx4, mx5, effOp, endCall, callOp, appendOp, sliceLV, Ty.fieldTy, Ty.fieldOf, Nat.reduceLT, Nat.reduceEqDiff, Nat.reduceAdd, Nat.reduceMul, Nat.reduceSub, Nat.reduceLeDiff, Nat.reduceBEq, Nat.reduceBNe, reduceIte, reduceDIte, reduceCtorEq]; rfl) ?_ ?_ -- R6
        · try simp only [and_true, true_and]
          exact ⟨hz.hu.1, by have := hz.hul; unfold CAP; omega⟩
        refine k_seq ?_
        refine r_ret ?_
        refine k_seq_ret ?_
        refine ⟨[65], ?_⟩
        simp only [hT, tab35, mr0, mr1, mr2, Nat.reduceLT, Nat.reduceEqDiff, Nat.reduceAdd, Nat.reduceMul, Nat.reduceSub, Nat.reduceLeDiff, Nat.reduceBEq, Nat.reduceBNe, reduceIte, reduceDIte, reduceCtorEq]
        exact hz.stop (nil_of_len (by omega))
      · intro hb1
        simp only [beq_eq_false_iff_ne, ne_eq] at hb1
        refine r_skip ?_
        refine k_seq ?_
        refine r_seq ?_
        refine r_region hG (by simp only [hT, tab35, cDivided, cWhole, cValue, mx0, mx1, mx2, mx3, mx4, mx5, effOp, endCall, callOp, appendOp, sliceLV, Ty.fieldTy, Ty.fieldOf, Nat.reduceLT, Nat.reduceEqDiff, Nat.reduceAdd, Nat.reduceMul, Nat.reduceSub, Nat.reduceLeDiff, Nat.reduceBEq, Nat.reduceBNe, reduceIte, reduceDIte, reduceCtorEq]; rfl) ?_ ?_ -- R7
        · try simp only [and_true, true_and]
          exact hz.side3 hC (ne_of_len (by omega))
        refine k_seq ?_
        refine r_seq ?_
        refine r_region hG (by simp only [hT, tab35, cDivided, cWhole, cValue, mx0, mx1, mx2, mx3, mx4, mx5, effOp, endCall, callOp, appendOp, sliceLV, Ty.fieldTy, Ty.fieldOf, Nat.reduceLT, Nat.reduceEqDiff, Nat.reduceAdd, Nat.reduceMul, Nat.reduceSub, Nat.reduceLeDiff, Nat.reduceBEq, Nat.reduceBNe, reduceIte, reduceDIte, reduceCtorEq]; rfl) ?_ ?_ -- R8
        · try simp only [and_true, true_and]
          have hr := hz.rest (ne_of_len (by omega))
          exact ⟨⟨hz.hv.1, by omega⟩, hz.side4 hC (ne_of_len (by omega)), hr.1.1, by omega⟩
        refine k_seq ?_
        refine r_seq ?_
        refine j_block ?_
        refine j_loop (fun (z : Int × Int) => (⟨[(4, .l (.ownP 4 0)), (11, .l (.z (.int .u64) z.1)), (12, .l (.z (.int .u64) z.2))], [(4, .box 55 [.z .bool false, .val (.slice none 0 0)])]⟩ : AState)) (fun z => EPhi x y z.1 z.2) (fun z => z.2.toNat) (valL v, valL (enc (dec (false, divR u v))).2) ?_ ?_ ?_
        · simp only [ml0, ml1, Nat.reduceLT, Nat.reduceEqDiff, Nat.reduceAdd, Nat.reduceMul, Nat.reduceSub, Nat.reduceLeDiff, Nat.reduceBEq, Nat.reduceBNe, reduceIte, reduceDIte, reduceCtorEq]
        · exact EPhi.start hz hC (ne_of_len (by omega)) (by omega)
        · rintro ⟨a, b⟩ he
          try dsimp only at he
          refine r_seq ?_
          refine r_seq ?_
          refine r_region hG (by simp only [hT, tab35, cDivided, cWhole, cValue, mx0, mx1, mx2, mx3, mx4, mx5, effOp, endCall, callOp, appendOp, sliceLV, Ty.fieldTy, Ty.fieldOf, Nat.reduceLT, Nat.reduceEqDiff, Nat.reduceAdd, Nat.reduceMul, Nat.reduceSub, Nat.reduceLeDiff, Nat.reduceBEq, Nat.reduceBNe, reduceIte, reduceDIte, reduceCtorEq]; rfl) ?_ ?_ -- R9
          · trivial
          refine k_seq ?_
          refine r_cond (by simp only [hT, tab35, mx0, mx1, mx2, mx3, mx4, mx5, effOp, endCall, callOp, appendOp, sliceLV, Ty.fieldTy, Ty.fieldOf, Nat.reduceLT, Nat.reduceEqDiff, Nat.reduceAdd, Nat.reduceMul, Nat.reduceSub, Nat.reduceLeDiff, Nat.reduceBEq, Nat.reduceBNe, reduceIte, reduceDIte, reduceCtorEq]; rfl) ?_ ?_
          · intro hb2
            try simp only [decide_eq_true_eq, decide_eq_false_iff_not, beq_iff_eq, bne_iff_ne, Bool.not_eq_true', Bool.and_eq_true] at hb2
            refine r_skip ?_
            refine k_seq ?_
            refine j_block ?_
            refine r_draw hG (by simp only [hT, mt0, tab35, cDivided, cWhole, cValue, mx0, mx1, mx2, mx3, mx4, mx5, effOp, endCall, callOp, appendOp, sliceLV, Ty.fieldTy, Ty.fieldOf, Nat.reduceLT, Nat.reduceEqDiff, Nat.reduceAdd, Nat.reduceMul, Nat.reduceSub, Nat.reduceLeDiff, Nat.reduceBEq, Nat.reduceBNe, reduceIte, reduceDIte, reduceCtorEq]; rfl) (by kernel_rfl) (by rfl) (by rfl) ?_ ?_ -- R10
            · try simp only [and_true, true_and]
              omega
            refine k_block ?_
            show ∃ z, _
            simp only [ml0, ml1, Nat.reduceLT, Nat.reduceEqDiff, Nat.reduceAdd, Nat.reduceMul, Nat.reduceSub, Nat.reduceLeDiff, Nat.reduceBEq, Nat.reduceBNe, reduceIte, reduceDIte, reduceCtorEq]
            exact he.next hb2
          · intro hb2
            try simp only [decide_eq_false_iff_not] at hb2
            have he2 := he.stop hb2
            refine r_exit ?_
            refine k_seq_exit ?_
            refine k_round_exit ?_
            refine k_block_exit ?_
            refine k_seq ?_
            refine r_seq ?_
            refine r_region hG (by simp only [hT, tab35, cDivided, cWhole, cValue, mx0, mx1, mx2, mx3, mx4, mx5, effOp, endCall, callOp, appendOp, sliceLV, Ty.fieldTy, Ty.fieldOf, Nat.reduceLT, Nat.reduceEqDiff, Nat.reduceAdd, Nat.reduceMul, Nat.reduceSub, Nat.reduceLeDiff, Nat.reduceBEq, Nat.reduceBNe, reduceIte, reduceDIte, reduceCtorEq]; rfl) ?_ ?_ -- R11
            · trivial
            refine k_seq ?_
            refine r_seq ?_
            refine j_block ?_
            refine j_loop (fun (z : Nat × List Int) => (⟨[(11, .l (.z (.int .u64) (z.1 : Int))), (13, .l (.ownP 13 0)), (4, .l (.ownP 4 0))], [(13, .box 55 [.z .bool false, .ownS 65]), (65, .arr (.int .u32) 82 z.2), (4, .box 55 [.z .bool false, .val (.slice none 0 0)])]⟩ : AState)) (fun z => z.2 ++ limbs z.1 = limbs (gcdI (dec x) (dec y)).toNat ∧ z.1 < 18446744073709551616) (fun z => z.1) ((gcdI (dec x) (dec y)).toNat, []) ?_ ?_ ?_
            · simp only [ml0, ml1, Nat.reduceLT, Nat.reduceEqDiff, Nat.reduceAdd, Nat.reduceMul, Nat.reduceSub, Nat.reduceLeDiff, Nat.reduceBEq, Nat.reduceBNe, reduceIte, reduceDIte, reduceCtorEq]
              exact ⟨he2.1, by unfold ioB; omega⟩
            · exact ⟨by simp, he2.2⟩
            · rintro ⟨w, l⟩ ⟨g1, g2⟩
              try dsimp only at g1 g2
              refine r_seq ?_
              refine r_seq ?_
              refine r_region hG (by simp only [hT, tab35, cDivided, cWhole, cValue, mx0, mx1, mx2, mx3, mx4, mx5, effOp, endCall, callOp, appendOp, sliceLV, Ty.fieldTy, Ty.fieldOf, Nat.reduceLT, Nat.reduceEqDiff, Nat.reduceAdd, Nat.reduceMul, Nat.reduceSub, Nat.reduceLeDiff, Nat.reduceBEq, Nat.reduceBNe, reduceIte, reduceDIte, reduceCtorEq]; rfl) ?_ ?_ -- R12
              · trivial
              refine k_seq ?_
              refine r_cond (by simp only [hT, tab35, mx0, mx1, mx2, mx3, mx4, mx5, effOp, endCall, callOp, appendOp, sliceLV, Ty.fieldTy, Ty.fieldOf, Nat.reduceLT, Nat.reduceEqDiff, Nat.reduceAdd, Nat.reduceMul, Nat.reduceSub, Nat.reduceLeDiff, Nat.reduceBEq, Nat.reduceBNe, reduceIte, reduceDIte, reduceCtorEq]; rfl) ?_ ?_
              · intro hb3
                try simp only [decide_eq_true_eq, decide_eq_false_iff_not, beq_iff_eq, bne_iff_ne, Bool.not_eq_true', Bool.and_eq_true] at hb3
                refine r_skip ?_
                refine k_seq ?_
                refine r_seq ?_
                refine j_block ?_
                refine r_region hG (by simp only [hT, tab35, cDivided, cWhole, cValue, mx0, mx1, mx2, mx3, mx4, mx5, effOp, endCall, callOp, appendOp, sliceLV, Ty.fieldTy, Ty.fieldOf, Nat.reduceLT, Nat.reduceEqDiff, Nat.reduceAdd, Nat.reduceMul, Nat.reduceSub, Nat.reduceLeDiff, Nat.reduceBEq, Nat.reduceBNe, reduceIte, reduceDIte, reduceCtorEq]; rfl) ?_ ?_ -- R14
                · try simp only [and_true, true_and]
                  have h3 := limbs_len3 he2.2
                  have h4 := congrArg List.length g1
                  simp only [List.length_append] at h4
                  exact ⟨by decide, by unfold Cm.Roomy; omega⟩
                refine k_block ?_
                refine k_seq ?_
                refine r_region hG (by simp only [hT, tab35, cDivided, cWhole, cValue, mx0, mx1, mx2, mx3, mx4, mx5, effOp, endCall, callOp, appendOp, sliceLV, Ty.fieldTy, Ty.fieldOf, Nat.reduceLT, Nat.reduceEqDiff, Nat.reduceAdd, Nat.reduceMul, Nat.reduceSub, Nat.reduceLeDiff, Nat.reduceBEq, Nat.reduceBNe, reduceIte, reduceDIte, reduceCtorEq]; rfl) ?_ ?_ -- R13
                · trivial
                show ∃ z, _
                simp only [ml0, ml1, Nat.reduceLT, Nat.reduceEqDiff, Nat.reduceAdd, Nat.reduceMul, Nat.reduceSub, Nat.reduceLeDiff, Nat.reduceBEq, Nat.reduceBNe, reduceIte, reduceDIte, reduceCtorEq]
                exact small_round g1 g2 hb3
              · intro hb3
                try simp only [decide_eq_true_eq, decide_eq_false_iff_not, beq_eq_false_iff_ne, bne_eq_false_iff_eq, Bool.not_eq_false', Bool.and_eq_false_imp] at hb3
                refine r_exit ?_
                refine k_seq_exit ?_
                refine k_round_exit ?_
                refine k_block_exit ?_
                refine k_seq ?_
                refine r_seq ?_
                refine r_region hG (by simp only [hT, tab35, cDivided, cWhole, cValue, mx0, mx1, mx2, mx3, mx4, mx5, effOp, endCall, callOp, appendOp, sliceLV, Ty.fieldTy, Ty.fieldOf, Nat.reduceLT, Nat.reduceEqDiff, Nat.reduceAdd, Nat.reduceMul, Nat.reduceSub, Nat.reduceLeDiff, Nat.reduceBEq, Nat.reduceBNe, reduceIte, reduceDIte, reduceCtorEq]; rfl) ?_ ?_ -- R15
                · trivial
                refine k_seq ?_
                refine r_ret ?_
                refine ⟨[65], ?_⟩
                simp only [hT, tab35, mr0, mr1, mr2, Nat.reduceLT, Nat.reduceEqDiff, Nat.reduceAdd, Nat.reduceMul, Nat.reduceSub, Nat.reduceLeDiff, Nat.reduceBEq, Nat.reduceBNe, reduceIte, reduceDIte, reduceCtorEq]
                have h0 : w = 0 := by omega
                subst h0
                rw [show limbs 0 = [] by simp [limbs], List.append_nil] at g1
                rw [g1]; exact gcd_enc _ _

end Go.Proofs.YtkgbdpmhdplddaaDoor
end

section
/- The functions of the package exact, one after the other: each meets its contract. -/
set_option linter.unusedSimpArgs false
set_option linter.unusedVariables false
set_option maxRecDepth 100000
namespace Go.Proofs.YtkgbdpmhdplddaaDoor
open Go Go.Cm Go.Proofs

def tab25 (B : Base) : Tab := { types := [(27, (.int .i64)), (55, (.st (.pair .bool (.slice (.int .u32))))), (56, (.slice (.st (.pair .bool (.slice (.int .u32)))))), (85, (.slice .str))], elems := [(85, 9)], cons := [(26, cAdd), (27, cMul), (29, cSub), (30, cReads), (35, cGcdW), (48, cTold)], hint := [], N := 31, base := B }
theorem good25 {B : Base} (hB : Tabs B) : MGood Tryd.prog (tab25 B) := ⟨⟨types_cons ty27 (types_cons ty55 (types_cons ty56 (types_cons ty85 (types_nil)))), elems_cons (by kernel_rfl) (elems_nil), by simp only [tab25, ioB]; omega⟩, cons_ok (cals_cons (cal_ok Tryd.func26 (by kernel_rfl) rfl (valid26 hB)) (cals_cons (cal_ok Tryd.func27 (by kernel_rfl) rfl (valid27 hB)) (cals_cons (cal_ok Tryd.func29 (by kernel_rfl) rfl (valid29 hB)) (cals_cons (cal_ok Tryd.func30 (by kernel_rfl) rfl (valid30 hB)) (cals_cons (cal_ok Tryd.func35 (by kernel_rfl) rfl (valid35 hB)) (cals_cons (cal_ok Tryd.func48 (by kernel_rfl) rfl (valid48 hB)) (cals_nil))))))), by kernel_rfl⟩
def cApp26 : Con := fun l os => match l, os with
  | [.z .str a, .z .str b, .val (.func (.func g) fi ca)], [] => if g = 26 ∧ fi.size = 0 ∧ ca.size = 0 then some (Short a ∧ Short b, [.z .str (resS (chkAll [a, b]) (numI a + numI b)), .z (.int .i64) (resE (chkAll [a, b]) (numI a + numI b))], []) else none
  | _, _ => none

theorem valid25_26 {B : Base} (hB : Tabs B) : Valid B Tryd.prog 25 cApp26 := by
  refine valid_of_J (T := tab25 B) (good25 hB).tab Tryd.func25 rfl rfl rfl ?_
  intro args os C rs os' hc hC
  unfold cApp26 at hc
  split at hc
  case h_2 => cases hc
  rename_i a b g fi ca
  split at hc
  case isFalse => cases hc
  rename_i hg
  obtain ⟨rfl, hf1, hf2⟩ := hg
  obtain rfl := Array.eq_empty_of_size_eq_zero hf1
  obtain rfl := Array.eq_empty_of_size_eq_zero hf2
  cases hc
  refine ⟨by simp only [List.length_cons, List.length_nil, tab25]; omega, rfl, ?_⟩
  intro X hP hT hr
  have hG : MGood X.P X.T := by rw [hP, hT]; exact good25 hB
  simp only [Tryd.f25, argEnv, ioList, ioB]
  refine r_seq ?_
  refine r_region hG (by simp only [hT, tab25, cReads, cTold, cAdd, cMul, cSub, cGcdW, mx0, mx1, mx2, mx3, mx4, mx5, effOp, endCall, callOp, appendOp, sliceLV, Ty.fieldTy, Ty.fieldOf, Nat.reduceLT, Nat.reduceEqDiff, Nat.reduceAdd, Nat.reduceMul, Nat.reduceSub, Nat.reduceLeDiff, Nat.reduceBEq, Nat.reduceBNe, reduceIte, reduceDIte, reduceCtorEq]; rfl) ?_ ?_ -- R0
  · trivial
  refine k_seq ?_
  refine r_seq ?_
  refine r_region hG (by simp only [hT, tab25, cReads, cTold, cAdd, cMul, cSub, cGcdW, mx0, mx1, mx2, mx3, mx4, mx5, effOp, endCall, callOp, appendOp, sliceLV, Ty.fieldTy, Ty.fieldOf, Nat.reduceLT, Nat.reduceEqDiff, Nat.reduceAdd, Nat.reduceMul, Nat.reduceSub, Nat.reduceLeDiff, Nat.reduceBEq, Nat.reduceBNe, reduceIte, reduceDIte, reduceCtorEq]; rfl) ?_ ?_ -- R1
  · try simp only [and_true, true_and]
    exact shorts2 hC
  refine k_seq ?_
  refine r_seq ?_
  refine r_seq ?_
  refine r_region hG (by simp only [hT, tab25, cReads, cTold, cAdd, cMul, cSub, cGcdW, mx0, mx1, mx2, mx3, mx4, mx5, effOp, endCall, callOp, appendOp, sliceLV, Ty.fieldTy, Ty.fieldOf, Nat.reduceLT, Nat.reduceEqDiff, Nat.reduceAdd, Nat.reduceMul, Nat.reduceSub, Nat.reduceLeDiff, Nat.reduceBEq, Nat.reduceBNe, reduceIte, reduceDIte, reduceCtorEq]; rfl) ?_ ?_ -- R2
  · trivial
  refine k_seq ?_
  refine r_cond (by simp only [hT, tab25, mx0, mx1, mx2, mx3, mx4, mx5, effOp, endCall, callOp, appendOp, sliceLV, Ty.fieldTy, Ty.fieldOf, Nat.reduceLT, Nat.reduceEqDiff, Nat.reduceAdd, Nat.reduceMul, Nat.reduceSub, Nat.reduceLeDiff, Nat.reduceBEq, Nat.reduceBNe, reduceIte, reduceDIte, reduceCtorEq]; rfl) ?_ ?_
  · intro hb0
    try simp only [decide_eq_true_eq, decide_eq_false_iff_not, beq_iff_eq, bne_iff_ne, Bool.not_eq_true', Bool.and_eq_true] at hb0
    refine r_seq ?_
    refine r_region hG (by simp only [hT, tab25, cReads, cTold, cAdd, cMul, cSub, cGcdW, mx0, mx1, mx2, mx3, mx4, mx5, effOp, endCall, callOp, appendOp, sliceLV, Ty.fieldTy, Ty.fieldOf, Nat.reduceLT, Nat.reduceEqDiff, Nat.reduceAdd, Nat.reduceMul, Nat.reduceSub, Nat.reduceLeDiff, Nat.reduceBEq, Nat.reduceBNe, reduceIte, reduceDIte, reduceCtorEq]; rfl) ?_ ?_ -- R3
    · trivial
    refine k_seq ?_
    refine r_ret ?_
    refine k_seq_ret ?_
    refine ⟨[], ?_⟩
    simp only [hT, tab25, mr0, mr1, mr2, Nat.reduceLT, Nat.reduceEqDiff, Nat.reduceAdd, Nat.reduceMul, Nat.reduceSub, Nat.reduceLeDiff, Nat.reduceBEq, Nat.reduceBNe, reduceIte, reduceDIte, reduceCtorEq]
    exact app_bad hb0
  · intro hb0
    try simp only [decide_eq_true_eq, decide_eq_false_iff_not, beq_eq_false_iff_ne, bne_eq_false_iff_eq, Bool.not_eq_false', Bool.and_eq_false_imp] at hb0
    refine r_skip ?_
    refine k_seq ?_
    refine r_seq ?_
    refine r_draw hG (by simp only [hT, mt0, tab25, cReads, cTold, cAdd, cMul, cSub, cGcdW, mx0, mx1, mx2, mx3, mx4, mx5, effOp, endCall, callOp, appendOp, sliceLV, Ty.fieldTy, Ty.fieldOf, Nat.reduceLT, Nat.reduceEqDiff, Nat.reduceAdd, Nat.reduceMul, Nat.reduceSub, Nat.reduceLeDiff, Nat.reduceBEq, Nat.reduceBNe, reduceIte, reduceDIte, reduceCtorEq]; rfl) (by kernel_rfl) (by rfl) (by rfl) ?_ ?_ -- R4
    · try simp only [and_true, true_and]
      obtain ⟨r1, r2, r3, r4, r5, r6⟩ := read2 hb0
      rw [r3, r4, dec_enc, dec_enc]
      obtain ⟨s1, s2, s3, s4⟩ := sum_len r5 r6
      exact ⟨⟨by omega, r1⟩, ⟨by omega, r2⟩, ⟨enc_ok _, enc_ok _, by unfold CAP; omega⟩, enc_ok _, by unfold CAP; omega⟩
    refine k_seq ?_
    refine r_ret ?_
    refine ⟨[], ?_⟩
    simp only [hT, tab25, mr0, mr1, mr2, Nat.reduceLT, Nat.reduceEqDiff, Nat.reduceAdd, Nat.reduceMul, Nat.reduceSub, Nat.reduceLeDiff, Nat.reduceBEq, Nat.reduceBNe, reduceIte, reduceDIte, reduceCtorEq]
    obtain ⟨r1, r2, r3, r4, r5, r6⟩ := read2 hb0
    rw [r3, r4, dec_enc, dec_enc, dec_enc]
    exact app_ok hb0

def cApp27 : Con := fun l os => match l, os with
  | [.z .str a, .z .str b, .val (.func (.func g) fi ca)], [] => if g = 27 ∧ fi.size = 0 ∧ ca.size = 0 then some (Short a ∧ Short b, [.z .str (resS (chkAll [a, b]) (numI a * numI b)), .z (.int .i64) (resE (chkAll [a, b]) (numI a * numI b))], []) else none
  | _, _ => none

theorem valid25_27 {B : Base} (hB : Tabs B) : Valid B Tryd.prog 25 cApp27 := by
  refine valid_of_J (T := tab25 B) (good25 hB).tab Tryd.func25 rfl rfl rfl ?_
  intro args os C rs os' hc hC
  unfold cApp27 at hc
  split at hc
  case h_2 => cases hc
  rename_i a b g fi ca
  split at hc
  case isFalse => cases hc
  rename_i hg
  obtain ⟨rfl, hf1, hf2⟩ := hg
  obtain rfl := Array.eq_empty_of_size_eq_zero hf1
  obtain rfl := Array.eq_empty_of_size_eq_zero hf2
  cases hc
  refine ⟨by simp only [List.length_cons, List.length_nil, tab25]; omega, rfl, ?_⟩
  intro X hP hT hr
  have hG : MGood X.P X.T := by rw [hP, hT]; exact good25 hB
  simp only [Tryd.f25, argEnv, ioList, ioB]
  refine r_seq ?_
  refine r_region hG (by simp only [hT, tab25, cReads, cTold, cAdd, cMul, cSub, cGcdW, mx0, mx1, mx2, mx3, mx4, mx5, effOp, endCall, callOp, appendOp, sliceLV, Ty.fieldTy, Ty.fieldOf, Nat.reduceLT, Nat.reduceEqDiff, Nat.reduceAdd, Nat.reduceMul, Nat.reduceSub, Nat.reduceLeDiff, Nat.reduceBEq, Nat.reduceBNe, reduceIte, reduceDIte, reduceCtorEq]; rfl) ?_ ?_ -- R0
  · trivial
  refine k_seq ?_
  refine r_seq ?_
  refine r_region hG (by simp only [hT, tab25, cReads, cTold, cAdd, cMul, cSub, cGcdW, mx0, mx1, mx2, mx3, mx4, mx5, effOp, endCall, callOp, appendOp, sliceLV, Ty.fieldTy, Ty.fieldOf, Nat.reduceLT, Nat.reduceEqDiff, Nat.reduceAdd, Nat.reduceMul, Nat.reduceSub, Nat.reduceLeDiff, Nat.reduceBEq, Nat.reduceBNe, reduceIte, reduceDIte, reduceCtorEq]; rfl) ?_ ?_ -- R1
  · try simp only [and_true, true_and]
    exact shorts2 hC
  refine k_seq ?_
  refine r_seq ?_
  refine r_seq ?_
  refine r_region hG (by simp only [hT, tab25, cReads, cTold, cAdd, cMul, cSub, cGcdW, mx0, mx1, mx2, mx3, mx4, mx5, effOp, endCall, callOp, appendOp, sliceLV, Ty.fieldTy, Ty.fieldOf, Nat.reduceLT, Nat.reduceEqDiff, Nat.reduceAdd, Nat.reduceMul, Nat.reduceSub, Nat.reduceLeDiff, Nat.reduceBEq, Nat.reduceBNe, reduceIte, reduceDIte, reduceCtorEq]; rfl) ?_ ?_ -- R2
  · trivial
  refine k_seq ?_
  refine r_cond (by simp only [hT, tab25, mx0, mx1, mx2, mx3, mx4, mx5, effOp, endCall, callOp, appendOp, sliceLV, Ty.fieldTy, Ty.fieldOf, Nat.reduceLT, Nat.reduceEqDiff, Nat.reduceAdd, Nat.reduceMul, Nat.reduceSub, Nat.reduceLeDiff, Nat.reduceBEq, Nat.reduceBNe, reduceIte, reduceDIte, reduceCtorEq]; rfl) ?_ ?_
  · intro hb0
    try simp only [decide_eq_true_eq, decide_eq_false_iff_not, beq_iff_eq, bne_iff_ne, Bool.not_eq_true', Bool.and_eq_true] at hb0
    refine r_seq ?_
    refine r_region hG (by simp only [hT, tab25, cReads, cTold, cAdd, cMul, cSub, cGcdW, mx0, mx1, mx2, mx3, mx4, mx5, effOp, endCall, callOp, appendOp, sliceLV, Ty.fieldTy, Ty.fieldOf, Nat.reduceLT, Nat.reduceEqDiff, Nat.reduceAdd, Nat.reduceMul, Nat.reduceSub, Nat.reduceLeDiff, Nat.reduceBEq, Nat.reduceBNe, reduceIte, reduceDIte, reduceCtorEq]; rfl) ?_ ?_ -- R3
    · trivial
    refine k_seq ?_
    refine r_ret ?_
    refine k_seq_ret ?_
    refine ⟨[], ?_⟩
    simp only [hT, tab25, mr0, mr1, mr2, Nat.reduceLT, Nat.reduceEqDiff, Nat.reduceAdd, Nat.reduceMul, Nat.reduceSub, Nat.reduceLeDiff, Nat.reduceBEq, Nat.reduceBNe, reduceIte, reduceDIte, reduceCtorEq]
    exact app_bad hb0
  · intro hb0
    try simp only [decide_eq_true_eq, decide_eq_false_iff_not, beq_eq_false_iff_ne, bne_eq_false_iff_eq, Bool.not_eq_false', Bool.and_eq_false_imp] at hb0
    refine r_skip ?_
    refine k_seq ?_
    refine r_seq ?_
    refine r_draw hG (by simp only [hT, mt0, tab25, cReads, cTold, cAdd, cMul, cSub, cGcdW, mx0, mx1, mx2, mx3, mx4, mx5, effOp, endCall, callOp, appendOp, sliceLV, Ty.fieldTy, Ty.fieldOf, Nat.reduceLT, Nat.reduceEqDiff, Nat.reduceAdd, Nat.reduceMul, Nat.reduceSub, Nat.reduceLeDiff, Nat.reduceBEq, Nat.reduceBNe, reduceIte, reduceDIte, reduceCtorEq]; rfl) (by kernel_rfl) (by rfl) (by rfl) ?_ ?_ -- R4
    · try simp only [and_true, true_and]
      obtain ⟨r1, r2, r3, r4, r5, r6⟩ := read2 hb0
      rw [r3, r4, dec_enc, dec_enc]
      obtain ⟨s1, s2, s3, s4⟩ := sum_len r5 r6
      exact ⟨⟨by omega, r1⟩, ⟨by omega, r2⟩, ⟨enc_ok _, enc_ok _, by unfold CAP; omega⟩, enc_ok _, by unfold CAP; omega⟩
    refine k_seq ?_
    refine r_ret ?_
    refine ⟨[], ?_⟩
    simp only [hT, tab25, mr0, mr1, mr2, Nat.reduceLT, Nat.reduceEqDiff, Nat.reduceAdd, Nat.reduceMul, Nat.reduceSub, Nat.reduceLeDiff, Nat.reduceBEq, Nat.reduceBNe, reduceIte, reduceDIte, reduceCtorEq]
    obtain ⟨r1, r2, r3, r4, r5, r6⟩ := read2 hb0
    rw [r3, r4, dec_enc, dec_enc, dec_enc]
    exact app_ok hb0

def cApp29 : Con := fun l os => match l, os with
  | [.z .str a, .z .str b, .val (.func (.func g) fi ca)], [] => if g = 29 ∧ fi.size = 0 ∧ ca.size = 0 then some (Short a ∧ Short b, [.z .str (resS (chkAll [a, b]) (numI a - numI b)), .z (.int .i64) (resE (chkAll [a, b]) (numI a - numI b))], []) else none
  | _, _ => none

theorem valid25_29 {B : Base} (hB : Tabs B) : Valid B Tryd.prog 25 cApp29 := by
  refine valid_of_J (T := tab25 B) (good25 hB).tab Tryd.func25 rfl rfl rfl ?_
  intro args os C rs os' hc hC
  unfold cApp29 at hc
  split at hc
  case h_2 => cases hc
  rename_i a b g fi ca
  split at hc
  case isFalse => cases hc
  rename_i hg
  obtain ⟨rfl, hf1, hf2⟩ := hg
  obtain rfl := Array.eq_empty_of_size_eq_zero hf1
  obtain rfl := Array.eq_empty_of_size_eq_zero hf2
  cases hc
  refine ⟨by simp only [List.length_cons, List.length_nil, tab25]; omega, rfl, ?_⟩
  intro X hP hT hr
  have hG : MGood X.P X.T := by rw [hP, hT]; exact good25 hB
  simp only [Tryd.f25, argEnv, ioList, ioB]
  refine r_seq ?_
  refine r_region hG (by simp only [hT, tab25, cReads, cTold, cAdd, cMul, cSub, cGcdW, mx0, mx1, mx2, mx3, mx4, mx5, effOp, endCall, callOp, appendOp, sliceLV, Ty.fieldTy, Ty.fieldOf, Nat.reduceLT, Nat.reduceEqDiff, Nat.reduceAdd, Nat.reduceMul, Nat.reduceSub, Nat.reduceLeDiff, Nat.reduceBEq, Nat.reduceBNe, reduceIte, reduceDIte, reduceCtorEq]; rfl) ?_ ?_ -- R0
  · trivial
  refine k_seq ?_
  refine r_seq ?_
  refine r_region hG (by simp only [hT, tab25, cReads, cTold, cAdd, cMul, cSub, cGcdW, mx0, mx1, mx2, mx3, mx4, mx5, effOp, endCall, callOp, appendOp, sliceLV, Ty.fieldTy, Ty.fieldOf, Nat.reduceLT, Nat.reduceEqDiff, Nat.reduceAdd, Nat.reduceMul, Nat.reduceSub, Nat.reduceLeDiff, Nat.reduceBEq, Nat.reduceBNe, reduceIte, reduceDIte, reduceCtorEq]; rfl) ?_ ?_ -- R1
  · try simp only [and_true, true_and]
    exact shorts2 hC
  refine k_seq ?_
  refine r_seq ?_
  refine r_seq ?_
  refine r_region hG (by simp only [hT, tab25, cReads, cTold, cAdd, cMul, cSub, cGcdW, mx0, mx1, mx2, mx3, mx4, mx5, effOp, endCall, callOp, appendOp, sliceLV, Ty.fieldTy, Ty.fieldOf, Nat.reduceLT, Nat.reduceEqDiff, Nat.reduceAdd, Nat.reduceMul, Nat.reduceSub, Nat.reduceLeDiff, Nat.reduceBEq, Nat.reduceBNe, reduceIte, reduceDIte, reduceCtorEq]; rfl) ?_ ?_ -- R2
  · trivial
  refine k_seq ?_
  refine r_cond (by simp only [hT, tab25, mx0, mx1, mx2, mx3, mx4, mx5, effOp, endCall, callOp, appendOp, sliceLV, Ty.fieldTy, Ty.fieldOf, Nat.reduceLT, Nat.reduceEqDiff, Nat.reduceAdd, Nat.reduceMul, Nat.reduceSub, Nat.reduceLeDiff, Nat.reduceBEq, Nat.reduceBNe, reduceIte, reduceDIte, reduceCtorEq]; rfl) ?_ ?_
  · intro hb0
    try simp only [decide_eq_true_eq, decide_eq_false_iff_not, beq_iff_eq, bne_iff_ne, Bool.not_eq_true', Bool.and_eq_true] at hb0
    refine r_seq ?_
    refine r_region hG (by simp only [hT, tab25, cReads, cTold, cAdd, cMul, cSub, cGcdW, mx0, mx1, mx2, mx3, mx4, mx5, effOp, endCall, callOp, appendOp, sliceLV, Ty.fieldTy, Ty.fieldOf, Nat.reduceLT, Nat.reduceEqDiff, Nat.reduceAdd, Nat.reduceMul, Nat.reduceSub, Nat.reduceLeDiff, Nat.reduceBEq, Nat.reduceBNe, reduceIte, reduceDIte, reduceCtorEq]; rfl) ?_ ?_ -- R3
    · trivial
    refine k_seq ?_
    refine r_ret ?_
    refine k_seq_ret ?_
    refine ⟨[], ?_⟩
    simp only [hT, tab25, mr0, mr1, mr2, Nat.reduceLT, Nat.reduceEqDiff, Nat.reduceAdd, Nat.reduceMul, Nat.reduceSub, Nat.reduceLeDiff, Nat.reduceBEq, Nat.reduceBNe, reduceIte, reduceDIte, reduceCtorEq]
    exact app_bad hb0
  · intro hb0
    try simp only [decide_eq_true_eq, decide_eq_false_iff_not, beq_eq_false_iff_ne, bne_eq_false_iff_eq, Bool.not_eq_false', Bool.and_eq_false_imp] at hb0
    refine r_skip ?_
    refine k_seq ?_
    refine r_seq ?_
    refine r_draw hG (by simp only [hT, mt0, tab25, cReads, cTold, cAdd, cMul, cSub, cGcdW, mx0, mx1, mx2, mx3, mx4, mx5, effOp, endCall, callOp, appendOp, sliceLV, Ty.fieldTy, Ty.fieldOf, Nat.reduceLT, Nat.reduceEqDiff, Nat.reduceAdd, Nat.reduceMul, Nat.reduceSub, Nat.reduceLeDiff, Nat.reduceBEq, Nat.reduceBNe, reduceIte, reduceDIte, reduceCtorEq]; rfl) (by kernel_rfl) (by rfl) (by rfl) ?_ ?_ -- R4
    · try simp only [and_true, true_and]
      obtain ⟨r1, r2, r3, r4, r5, r6⟩ := read2 hb0
      rw [r3, r4, dec_enc, dec_enc]
      obtain ⟨s1, s2, s3, s4⟩ := sum_len r5 r6
      exact ⟨⟨by omega, r1⟩, ⟨by omega, r2⟩, ⟨enc_ok _, enc_ok _, by unfold CAP; omega⟩, enc_ok _, by unfold CAP; omega⟩
    refine k_seq ?_
    refine r_ret ?_
    refine ⟨[], ?_⟩
    simp only [hT, tab25, mr0, mr1, mr2, Nat.reduceLT, Nat.reduceEqDiff, Nat.reduceAdd, Nat.reduceMul, Nat.reduceSub, Nat.reduceLeDiff, Nat.reduceBEq, Nat.reduceBNe, reduceIte, reduceDIte, reduceCtorEq]
    obtain ⟨r1, r2, r3, r4, r5, r6⟩ := read2 hb0
    rw [r3, r4, dec_enc, dec_enc, dec_enc]
    exact app_ok hb0

def cApp35 : Con := fun l os => match l, os with
  | [.z .str a, .z .str b, .val (.func (.func g) fi ca)], [] => if g = 35 ∧ fi.size = 0 ∧ ca.size = 0 then some (Short a ∧ Short b, [.z .str (resS (chkAll [a, b]) (gcdI (numI a) (numI b))), .z (.int .i64) (resE (chkAll [a, b]) (gcdI (numI a) (numI b)))], []) else none
  | _, _ => none

theorem valid25_35 {B : Base} (hB : Tabs B) : Valid B Tryd.prog 25 cApp35 := by
  refine valid_of_J (T := tab25 B) (good25 hB).tab Tryd.func25 rfl rfl rfl ?_
  intro args os C rs os' hc hC
  unfold cApp35 at hc
  split at hc
  case h_2 => cases hc
  rename_i a b g fi ca
  split at hc
  case isFalse => cases hc
  rename_i hg
  obtain ⟨rfl, hf1, hf2⟩ := hg
  obtain rfl := Array.eq_empty_of_size_eq_zero hf1
  obtain rfl := Array.eq_empty_of_size_eq_zero hf2
  cases hc
  refine ⟨by simp only [List.length_cons, List.length_nil, tab25]; omega, rfl, ?_⟩
  intro X hP hT hr
  have hG : MGood X.P X.T := by rw [hP, hT]; exact good25 hB
  simp only [Tryd.f25, argEnv, ioList, ioB]
  refine r_seq ?_
  refine r_region hG (by simp only [hT, tab25, cReads, cTold, cAdd, cMul, cSub, cGcdW, mx0, mx1, mx2, mx3, mx4, mx5, effOp, endCall, callOp, appendOp, sliceLV, Ty.fieldTy, Ty.fieldOf, Nat.reduceLT, Nat.reduceEqDiff, Nat.reduceAdd, Nat.reduceMul, Nat.reduceSub, Nat.reduceLeDiff, Nat.reduceBEq, Nat.reduceBNe, reduceIte, reduceDIte, reduceCtorEq]; rfl) ?_ ?_ -- R0
  · trivial
  refine k_seq ?_
  refine r_seq ?_
  refine r_region hG (by simp only [hT, tab25, cReads, cTold, cAdd, cMul, cSub, cGcdW, mx0, mx1, mx2, mx3, mx4, mx5, effOp, endCall, callOp, appendOp, sliceLV, Ty.fieldTy, Ty.fieldOf, Nat.reduceLT, Nat.reduceEqDiff, Nat.reduceAdd, Nat.reduceMul, Nat.reduceSub, Nat.reduceLeDiff, Nat.reduceBEq, Nat.reduceBNe, reduceIte, reduceDIte, reduceCtorEq]; rfl) ?_ ?_ -- R1
  · try simp only [and_true, true_and]
    exact shorts2 hC
  refine k_seq ?_
  refine r_seq ?_
  refine r_seq ?_
  refine r_region hG (by simp only [hT, tab25, cReads, cTold, cAdd, cMul, cSub, cGcdW, mx0, mx1, mx2, mx3, mx4, mx5, effOp, endCall, callOp, appendOp, sliceLV, Ty.fieldTy, Ty.fieldOf, Nat.reduceLT, Nat.reduceEqDiff, Nat.reduceAdd, Nat.reduceMul, Nat.reduceSub, Nat.reduceLeDiff, Nat.reduceBEq, Nat.reduceBNe, reduceIte, reduceDIte, reduceCtorEq]; rfl) ?_ ?_ -- R2
  · trivial
  refine k_seq ?_
  refine r_cond (by simp only [hT, tab25, mx0, mx1, mx2, mx3, mx4, mx5, effOp, endCall, callOp, appendOp, sliceLV, Ty.fieldTy, Ty.fieldOf, Nat.reduceLT, Nat.reduceEqDiff, Nat.reduceAdd, Nat.reduceMul, Nat.reduceSub, Nat.reduceLeDiff, Nat.reduceBEq, Nat.reduceBNe, reduceIte, reduceDIte, reduceCtorEq]; rfl) ?_ ?_
  · intro hb0
    try simp only [decide_eq_true_eq, decide_eq_false_iff_not, beq_iff_eq, bne_iff_ne, Bool.not_eq_true', Bool.and_eq_true] at hb0
    refine r_seq ?_
    refine r_region hG (by simp only [hT, tab25, cReads, cTold, cAdd, cMul, cSub, cGcdW, mx0, mx1, mx2, mx3, mx4, mx5, effOp, endCall, callOp, appendOp, sliceLV, Ty.fieldTy, Ty.fieldOf, Nat.reduceLT, Nat.reduceEqDiff, Nat.reduceAdd, Nat.reduceMul, Nat.reduceSub, Nat.reduceLeDiff, Nat.reduceBEq, Nat.reduceBNe, reduceIte, reduceDIte, reduceCtorEq]; rfl) ?_ ?_ -- R3
    · trivial
    refine k_seq ?_
    refine r_ret ?_
    refine k_seq_ret ?_
    refine ⟨[], ?_⟩
    simp only [hT, tab25, mr0, mr1, mr2, Nat.reduceLT, Nat.reduceEqDiff, Nat.reduceAdd, Nat.reduceMul, Nat.reduceSub, Nat.reduceLeDiff, Nat.reduceBEq, Nat.reduceBNe, reduceIte, reduceDIte, reduceCtorEq]
    exact app_bad hb0
  · intro hb0
    try simp only [decide_eq_true_eq, decide_eq_false_iff_not, beq_eq_false_iff_ne, bne_eq_false_iff_eq, Bool.not_eq_false', Bool.and_eq_false_imp] at hb0
    refine r_skip ?_
    refine k_seq ?_
    refine r_seq ?_
    refine r_draw hG (by simp only [hT, mt0, tab25, cReads, cTold, cAdd, cMul, cSub, cGcdW, mx0, mx1, mx2, mx3, mx4, mx5, effOp, endCall, callOp, appendOp, sliceLV, Ty.fieldTy, Ty.fieldOf, Nat.reduceLT, Nat.reduceEqDiff, Nat.reduceAdd, Nat.reduceMul, Nat.reduceSub, Nat.reduceLeDiff, Nat.reduceBEq, Nat.reduceBNe, reduceIte, reduceDIte, reduceCtorEq]; rfl) (by kernel_rfl) (by rfl) (by rfl) ?_ ?_ -- R4
    · try simp only [and_true, true_and]
      obtain ⟨r1, r2, r3, r4, r5, r6⟩ := read2 hb0
      rw [r3, r4, dec_enc, dec_enc]
      obtain ⟨s1, s2, s3, s4⟩ := sum_len r5 r6
      exact ⟨⟨by omega, r1⟩, ⟨by omega, r2⟩, ⟨enc_ok _, enc_ok _, by unfold CAP; omega⟩, enc_ok _, by unfold CAP; omega⟩
    refine k_seq ?_
    refine r_ret ?_
    refine ⟨[], ?_⟩
    simp only [hT, tab25, mr0, mr1, mr2, Nat.reduceLT, Nat.reduceEqDiff, Nat.reduceAdd, Nat.reduceMul, Nat.reduceSub, Nat.reduceLeDiff, Nat.reduceBEq, Nat.reduceBNe, reduceIte, reduceDIte, reduceCtorEq]
    obtain ⟨r1, r2, r3, r4, r5, r6⟩ := read2 hb0
    rw [r3, r4, dec_enc, dec_enc, dec_enc]
    exact app_ok hb0

def tab10 (B : Base) : Tab := { types := [(9, .str)], elems := [], cons := [(25, cApp26)], hint := [], N := 11, base := B }
theorem good10 {B : Base} (hB : Tabs B) : MGood Tryd.prog (tab10 B) := ⟨⟨types_cons ty9 (types_nil), elems_nil, by simp only [tab10, ioB]; omega⟩, cons_ok (cals_cons (cal_ok Tryd.func25 (by kernel_rfl) rfl (valid25_26 hB)) (cals_nil)), by kernel_rfl⟩
def cAddT : Con := fun l os => match l, os with
  | [.z .str a, .z .str b], [] => some (Short a ∧ Short b, [.z .str (resS (chkAll [a, b]) (numI a + numI b)), .z (.int .i64) (resE (chkAll [a, b]) (numI a + numI b))], [])
  | _, _ => none

theorem valid10 {B : Base} (hB : Tabs B) : Valid B Tryd.prog 10 cAddT := by
  refine valid_of_J (T := tab10 B) (good10 hB).tab Tryd.func10 rfl rfl rfl ?_
  intro args os C rs os' hc hC
  unfold cAddT at hc
  split at hc
  case h_2 => cases hc
  rename_i a b
  cases hc
  refine ⟨by simp only [List.length_cons, List.length_nil, tab10]; omega, rfl, ?_⟩
  intro X hP hT hr
  have hG : MGood X.P X.T := by rw [hP, hT]; exact good10 hB
  simp only [Tryd.f10, argEnv, ioList, ioB]
  refine r_seq ?_
  refine r_region hG (by simp only [hT, tab10, cApp26, mx0, mx1, mx2, mx3, mx4, mx5, effOp, endCall, callOp, appendOp, sliceLV, Ty.fieldTy, Ty.fieldOf, Nat.reduceLT, Nat.reduceEqDiff, Nat.reduceAdd, Nat.reduceMul, Nat.reduceSub, Nat.reduceLeDiff, Nat.reduceBEq, Nat.reduceBNe, reduceIte, reduceDIte, reduceCtorEq]; rfl) ?_ ?_ -- R0
  · trivial
  refine k_seq ?_
  refine r_seq ?_
  refine r_region hG (by simp only [hT, tab10, cApp26, mx0, mx1, mx2, mx3, mx4, mx5, effOp, endCall, callOp, appendOp, sliceLV, Ty.fieldTy, Ty.fieldOf, Nat.reduceLT, Nat.reduceEqDiff, Nat.reduceAdd, Nat.reduceMul, Nat.reduceSub, Nat.reduceLeDiff, Nat.reduceBEq, Nat.reduceBNe, reduceIte, reduceDIte, reduceCtorEq]; rfl) ?_ ?_ -- R1
  · try simp only [and_true, true_and]
    exact hC
  refine k_seq ?_
  refine r_ret ?_
  refine ⟨[], ?_⟩
  simp only [hT, tab10, mr0, mr1, mr2, Nat.reduceLT, Nat.reduceEqDiff, Nat.reduceAdd, Nat.reduceMul, Nat.reduceSub, Nat.reduceLeDiff, Nat.reduceBEq, Nat.reduceBNe, reduceIte, reduceDIte, reduceCtorEq]
  skip

def tab11 (B : Base) : Tab := { types := [(9, .str)], elems := [], cons := [(25, cApp27)], hint := [], N := 11, base := B }
theorem good11 {B : Base} (hB : Tabs B) : MGood Tryd.prog (tab11 B) := ⟨⟨types_cons ty9 (types_nil), elems_nil, by simp only [tab11, ioB]; omega⟩, cons_ok (cals_cons (cal_ok Tryd.func25 (by kernel_rfl) rfl (valid25_27 hB)) (cals_nil)), by kernel_rfl⟩
def cMulT : Con := fun l os => match l, os with
  | [.z .str a, .z .str b], [] => some (Short a ∧ Short b, [.z .str (resS (chkAll [a, b]) (numI a * numI b)), .z (.int .i64) (resE (chkAll [a, b]) (numI a * numI b))], [])
  | _, _ => none

theorem valid11 {B : Base} (hB : Tabs B) : Valid B Tryd.prog 11 cMulT := by
  refine valid_of_J (T := tab11 B) (good11 hB).tab Tryd.func11 rfl rfl rfl ?_
  intro args os C rs os' hc hC
  unfold cMulT at hc
  split at hc
  case h_2 => cases hc
  rename_i a b
  cases hc
  refine ⟨by simp only [List.length_cons, List.length_nil, tab11]; omega, rfl, ?_⟩
  intro X hP hT hr
  have hG : MGood X.P X.T := by rw [hP, hT]; exact good11 hB
  simp only [Tryd.f11, argEnv, ioList, ioB]
  refine r_seq ?_
  refine r_region hG (by simp only [hT, tab11, cApp27, mx0, mx1, mx2, mx3, mx4, mx5, effOp, endCall, callOp, appendOp, sliceLV, Ty.fieldTy, Ty.fieldOf, Nat.reduceLT, Nat.reduceEqDiff, Nat.reduceAdd, Nat.reduceMul, Nat.reduceSub, Nat.reduceLeDiff, Nat.reduceBEq, Nat.reduceBNe, reduceIte, reduceDIte, reduceCtorEq]; rfl) ?_ ?_ -- R0
  · trivial
  refine k_seq ?_
  refine r_seq ?_
  refine r_region hG (by simp only [hT, tab11, cApp27, mx0, mx1, mx2, mx3, mx4, mx5, effOp, endCall, callOp, appendOp, sliceLV, Ty.fieldTy, Ty.fieldOf, Nat.reduceLT, Nat.reduceEqDiff, Nat.reduceAdd, Nat.reduceMul, Nat.reduceSub, Nat.reduceLeDiff, Nat.reduceBEq, Nat.reduceBNe, reduceIte, reduceDIte, reduceCtorEq]; rfl) ?_ ?_ -- R1
  · try simp only [and_true, true_and]
    exact hC
  refine k_seq ?_
  refine r_ret ?_
  refine ⟨[], ?_⟩
  simp only [hT, tab11, mr0, mr1, mr2, Nat.reduceLT, Nat.reduceEqDiff, Nat.reduceAdd, Nat.reduceMul, Nat.reduceSub, Nat.reduceLeDiff, Nat.reduceBEq, Nat.reduceBNe, reduceIte, reduceDIte, reduceCtorEq]
  skip

def tab13 (B : Base) : Tab := { types := [(9, .str)], elems := [], cons := [(25, cApp29)], hint := [], N := 11, base := B }
theorem good13 {B : Base} (hB : Tabs B) : MGood Tryd.prog (tab13 B) := ⟨⟨types_cons ty9 (types_nil), elems_nil, by simp only [tab13, ioB]; omega⟩, cons_ok (cals_cons (cal_ok Tryd.func25 (by kernel_rfl) rfl (valid25_29 hB)) (cals_nil)), by kernel_rfl⟩
def cSubT : Con := fun l os => match l, os with
  | [.z .str a, .z .str b], [] => some (Short a ∧ Short b, [.z .str (resS (chkAll [a, b]) (numI a - numI b)), .z (.int .i64) (resE (chkAll [a, b]) (numI a - numI b))], [])
  | _, _ => none

theorem valid13 {B : Base} (hB : Tabs B) : Valid B Tryd.prog 13 cSubT := by
  refine valid_of_J (T := tab13 B) (good13 hB).tab Tryd.func13 rfl rfl rfl ?_
  intro args os C rs os' hc hC
  unfold cSubT at hc
  split at hc
  case h_2 => cases hc
  rename_i a b
  cases hc
  refine ⟨by simp only [List.length_cons, List.length_nil, tab13]; omega, rfl, ?_⟩
  intro X hP hT hr
  have hG : MGood X.P X.T := by rw [hP, hT]; exact good13 hB
  simp only [Tryd.f13, argEnv, ioList, ioB]
  refine r_seq ?_
  refine r_region hG (by simp only [hT, tab13, cApp29, mx0, mx1, mx2, mx3, mx4, mx5, effOp, endCall, callOp, appendOp, sliceLV, Ty.fieldTy, Ty.fieldOf, Nat.reduceLT, Nat.reduceEqDiff, Nat.reduceAdd, Nat.reduceMul, Nat.reduceSub, Nat.reduceLeDiff, Nat.reduceBEq, Nat.reduceBNe, reduceIte, reduceDIte, reduceCtorEq]; rfl) ?_ ?_ -- R0
  · trivial
  refine k_seq ?_
  refine r_seq ?_
  refine r_region hG (by simp only [hT, tab13, cApp29, mx0, mx1, mx2, mx3, mx4, mx5, effOp, endCall, callOp, appendOp, sliceLV, Ty.fieldTy, Ty.fieldOf, Nat.reduceLT, Nat.reduceEqDiff, Nat.reduceAdd, Nat.reduceMul, Nat.reduceSub, Nat.reduceLeDiff, Nat.reduceBEq, Nat.reduceBNe, reduceIte, reduceDIte, reduceCtorEq]; rfl) ?_ ?_ -- R1
  · try simp only [and_true, true_and]
    exact hC
  refine k_seq ?_
  refine r_ret ?_
  refine ⟨[], ?_⟩
  simp only [hT, tab13, mr0, mr1, mr2, Nat.reduceLT, Nat.reduceEqDiff, Nat.reduceAdd, Nat.reduceMul, Nat.reduceSub, Nat.reduceLeDiff, Nat.reduceBEq, Nat.reduceBNe, reduceIte, reduceDIte, reduceCtorEq]
  skip

def tab16 (B : Base) : Tab := { types := [(9, .str)], elems := [], cons := [(25, cApp35)], hint := [], N := 11, base := B }
theorem good16 {B : Base} (hB : Tabs B) : MGood Tryd.prog (tab16 B) := ⟨⟨types_cons ty9 (types_nil), elems_nil, by simp only [tab16, ioB]; omega⟩, cons_ok (cals_cons (cal_ok Tryd.func25 (by kernel_rfl) rfl (valid25_35 hB)) (cals_nil)), by kernel_rfl⟩
def cGcdT : Con := fun l os => match l, os with
  | [.z .str a, .z .str b], [] => some (Short a ∧ Short b, [.z .str (resS (chkAll [a, b]) (gcdI (numI a) (numI b))), .z (.int .i64) (resE (chkAll [a, b]) (gcdI (numI a) (numI b)))], [])
  | _, _ => none

theorem valid16 {B : Base} (hB : Tabs B) : Valid B Tryd.prog 16 cGcdT := by
  refine valid_of_J (T := tab16 B) (good16 hB).tab Tryd.func16 rfl rfl rfl ?_
  intro args os C rs os' hc hC
  unfold cGcdT at hc
  split at hc
  case h_2 => cases hc
  rename_i a b
  cases hc
  refine ⟨by simp only [List.length_cons, List.length_nil, tab16]; omega, rfl, ?_⟩
  intro X hP hT hr
  have hG : MGood X.P X.T := by rw [hP, hT]; exact good16 hB
  simp only [Tryd.f16, argEnv, ioList, ioB]
  refine r_seq ?_
  refine r_region hG (by simp only [hT, tab16, cApp35, mx0, mx1, mx2, mx3, mx4, mx5, effOp, endCall, callOp, appendOp, sliceLV, Ty.fieldTy, Ty.fieldOf, Nat.reduceLT, Nat.reduceEqDiff, Nat.reduceAdd, Nat.reduceMul, Nat.reduceSub, Nat.reduceLeDiff, Nat.reduceBEq, Nat.reduceBNe, reduceIte, reduceDIte, reduceCtorEq]; rfl) ?_ ?_ -- R0
  · trivial
  refine k_seq ?_
  refine r_seq ?_
  refine r_region hG (by simp only [hT, tab16, cApp35, mx0, mx1, mx2, mx3, mx4, mx5, effOp, endCall, callOp, appendOp, sliceLV, Ty.fieldTy, Ty.fieldOf, Nat.reduceLT, Nat.reduceEqDiff, Nat.reduceAdd, Nat.reduceMul, Nat.reduceSub, Nat.reduceLeDiff, Nat.reduceBEq, Nat.reduceBNe, reduceIte, reduceDIte, reduceCtorEq]; rfl) ?_ ?_ -- R1
  · try simp only [and_true, true_and]
    exact hC
  refine k_seq ?_
  refine r_ret ?_
  refine ⟨[], ?_⟩
  simp only [hT, tab16, mr0, mr1, mr2, Nat.reduceLT, Nat.reduceEqDiff, Nat.reduceAdd, Nat.reduceMul, Nat.reduceSub, Nat.reduceLeDiff, Nat.reduceBEq, Nat.reduceBNe, reduceIte, reduceDIte, reduceCtorEq]
  skip

end Go.Proofs.YtkgbdpmhdplddaaDoor
end

section
/- The functions of the package exact, one after the other: each meets its contract. -/
set_option linter.unusedSimpArgs false
set_option linter.unusedVariables false
set_option maxRecDepth 100000
namespace Go.Proofs.YtkgbdpmhdplddaaDoor
open Go Go.Cm Go.Proofs

def tab32 (B : Base) : Tab := { types := [(3, (.int .i64)), (4, .bool), (53, (.slice (.int .u32))), (55, (.st (.pair .bool (.slice (.int .u32)))))], elems := [], cons := [(26, cAdd), (29, cSub), (31, cSign), (37, cSmall), (49, cWhole), (55, cDivided)], hint := [], N := 47, base := B }
theorem good32 {B : Base} (hB : Tabs B) : MGood Tryd.prog (tab32 B) := ⟨⟨types_cons ty3 (types_cons ty4 (types_cons ty53 (types_cons ty55 (types_nil)))), elems_nil, by simp only [tab32, ioB]; omega⟩, cons_ok (cals_cons (cal_ok Tryd.func26 (by kernel_rfl) rfl (valid26 hB)) (cals_cons (cal_ok Tryd.func29 (by kernel_rfl) rfl (valid29 hB)) (cals_cons (cal_ok Tryd.func31 (by kernel_rfl) rfl (valid31 hB)) (cals_cons (cal_ok Tryd.func37 (by kernel_rfl) rfl (valid37 hB)) (cals_cons (cal_ok Tryd.func49 (by kernel_rfl) rfl (valid49 hB)) (cals_cons (cal_ok Tryd.func55 (by kernel_rfl) rfl (valid55 hB)) (cals_nil))))))), by kernel_rfl⟩
def cDivW : Con := fun l os => match l, os with
  | [.z (.st (.pair .bool (.slice (.int .u32)))) x, .z (.st (.pair .bool (.slice (.int .u32)))) y], [] => some (DivPre x y, [.z (.st (.pair .bool (.slice (.int .u32)))) (enc (floorQ (dec x) (dec y))), .z (.st (.pair .bool (.slice (.int .u32)))) (enc (floorR (dec x) (dec y)))], [])
  | _, _ => none

theorem valid32 {B : Base} (hB : Tabs B) : Valid B Tryd.prog 32 cDivW := by
  refine valid_of_J (T := tab32 B) (good32 hB).tab Tryd.func32 rfl rfl rfl ?_
  intro args os C rs os' hc hC
  unfold cDivW at hc
  split at hc
  case h_2 => cases hc
  rename_i x y
  cases hc
  refine ⟨by simp only [List.length_cons, List.length_nil, tab32]; omega, rfl, ?_⟩
  intro X hP hT hr
  have hG : MGood X.P X.T := by rw [hP, hT]; exact good32 hB
  simp only [Tryd.f32, argEnv, ioList, ioB]
  refine r_seq ?_
  refine r_region hG (by simp only [hT, tab32, cDivided, cWhole, cSign, cSmall, cSub, cAdd, mx0, mx1, mx2, mx3, mx4, mx5, effOp, endCall, callOp, appendOp, sliceLV, Ty.fieldTy, Ty.fieldOf, Nat.reduceLT, Nat.reduceEqDiff, Nat.reduceAdd, Nat.reduceMul, Nat.reduceSub, Nat.reduceLeDiff, Nat.reduceBEq, Nat.reduceBNe, reduceIte, reduceDIte, reduceCtorEq]; rfl) ?_ ?_ -- R0
  · trivial
  refine k_seq ?_
  refine r_seq ?_
  refine r_region hG (by simp only [hT, tab32, cDivided, cWhole, cSign, cSmall, cSub, cAdd, mx0, mx1, mx2, mx3, mx4, mx5, effOp, endCall, callOp, appendOp, sliceLV, Ty.fieldTy, Ty.fieldOf, Nat.reduceLT, Nat.reduceEqDiff, Nat.reduceAdd, Nat.reduceMul, Nat.reduceSub, Nat.reduceLeDiff, Nat.reduceBEq, Nat.reduceBNe, reduceIte, reduceDIte, reduceCtorEq]; rfl) ?_ ?_ -- R1
  · try simp only [and_true, true_and]
    exact hC.side1
  refine k_seq ?_
  refine r_seq ?_
  refine r_draw hG (by simp only [hT, mt0, tab32, cDivided, cWhole, cSign, cSmall, cSub, cAdd, mx0, mx1, mx2, mx3, mx4, mx5, effOp, endCall, callOp, appendOp, sliceLV, Ty.fieldTy, Ty.fieldOf, Nat.reduceLT, Nat.reduceEqDiff, Nat.reduceAdd, Nat.reduceMul, Nat.reduceSub, Nat.reduceLeDiff, Nat.reduceBEq, Nat.reduceBNe, reduceIte, reduceDIte, reduceCtorEq]; rfl) (by kernel_rfl) (by rfl) (by rfl) ?_ ?_ -- R2
  · try simp only [and_true, true_and]
    exact hC.side2
  refine k_seq ?_
  refine r_seq ?_
  refine r_seq ?_
  refine r_region hG (by simp only [hT, tab32, cDivided, cWhole, cSign, cSmall, cSub, cAdd, mx0, mx1, mx2, mx3, mx4, mx5, effOp, endCall, callOp, appendOp, sliceLV, Ty.fieldTy, Ty.fieldOf, Nat.reduceLT, Nat.reduceEqDiff, Nat.reduceAdd, Nat.reduceMul, Nat.reduceSub, Nat.reduceLeDiff, Nat.reduceBEq, Nat.reduceBNe, reduceIte, reduceDIte, reduceCtorEq]; rfl) ?_ ?_ -- R3
  · try simp only [and_true, true_and]
    exact ⟨enc_ok _, fun h => h⟩
  refine k_seq ?_
  refine r_cond (by simp only [hT, tab32, mx0, mx1, mx2, mx3, mx4, mx5, effOp, endCall, callOp, appendOp, sliceLV, Ty.fieldTy, Ty.fieldOf, Nat.reduceLT, Nat.reduceEqDiff, Nat.reduceAdd, Nat.reduceMul, Nat.reduceSub, Nat.reduceLeDiff, Nat.reduceBEq, Nat.reduceBNe, reduceIte, reduceDIte, reduceCtorEq]; rfl) ?_ ?_
  · intro hb0
    try simp only [decide_eq_true_eq, decide_eq_false_iff_not, beq_iff_eq, bne_iff_ne, Bool.not_eq_true', Bool.and_eq_true] at hb0
    refine r_draw hG (by simp only [hT, mt0, tab32, cDivided, cWhole, cSign, cSmall, cSub, cAdd, mx0, mx1, mx2, mx3, mx4, mx5, effOp, endCall, callOp, appendOp, sliceLV, Ty.fieldTy, Ty.fieldOf, Nat.reduceLT, Nat.reduceEqDiff, Nat.reduceAdd, Nat.reduceMul, Nat.reduceSub, Nat.reduceLeDiff, Nat.reduceBEq, Nat.reduceBNe, reduceIte, reduceDIte, reduceCtorEq]; rfl) (by kernel_rfl) (by rfl) (by rfl) ?_ ?_ -- R4
    · try simp only [and_true, true_and]
      exact hC.side4
    refine k_seq ?_
    refine r_seq ?_
    refine r_draw hG (by simp only [hT, mt0, tab32, cDivided, cWhole, cSign, cSmall, cSub, cAdd, mx0, mx1, mx2, mx3, mx4, mx5, effOp, endCall, callOp, appendOp, sliceLV, Ty.fieldTy, Ty.fieldOf, Nat.reduceLT, Nat.reduceEqDiff, Nat.reduceAdd, Nat.reduceMul, Nat.reduceSub, Nat.reduceLeDiff, Nat.reduceBEq, Nat.reduceBNe, reduceIte, reduceDIte, reduceCtorEq]; rfl) (by kernel_rfl) (by rfl) (by rfl) ?_ ?_ -- R5
    · trivial
    refine k_seq ?_
    refine r_ret ?_
    refine ⟨[], ?_⟩
    simp only [hT, tab32, mr0, mr1, mr2, Nat.reduceLT, Nat.reduceEqDiff, Nat.reduceAdd, Nat.reduceMul, Nat.reduceSub, Nat.reduceLeDiff, Nat.reduceBEq, Nat.reduceBNe, reduceIte, reduceDIte, reduceCtorEq]
    exact hC.fin1 hb0
  · intro hb0
    try simp only [decide_eq_true_eq, decide_eq_false_iff_not, beq_eq_false_iff_ne, bne_eq_false_iff_eq, Bool.not_eq_false', Bool.and_eq_false_imp] at hb0
    refine r_skip ?_
    refine k_seq ?_
    refine r_seq ?_
    refine r_draw hG (by simp only [hT, mt0, tab32, cDivided, cWhole, cSign, cSmall, cSub, cAdd, mx0, mx1, mx2, mx3, mx4, mx5, effOp, endCall, callOp, appendOp, sliceLV, Ty.fieldTy, Ty.fieldOf, Nat.reduceLT, Nat.reduceEqDiff, Nat.reduceAdd, Nat.reduceMul, Nat.reduceSub, Nat.reduceLeDiff, Nat.reduceBEq, Nat.reduceBNe, reduceIte, reduceDIte, reduceCtorEq]; rfl) (by kernel_rfl) (by rfl) (by rfl) ?_ ?_ -- R5
    · trivial
    refine k_seq ?_
    refine r_ret ?_
    refine ⟨[], ?_⟩
    simp only [hT, tab32, mr0, mr1, mr2, Nat.reduceLT, Nat.reduceEqDiff, Nat.reduceAdd, Nat.reduceMul, Nat.reduceSub, Nat.reduceLeDiff, Nat.reduceBEq, Nat.reduceBNe, reduceIte, reduceDIte, reduceCtorEq]
    exact hC.fin2 hb0

end Go.Proofs.YtkgbdpmhdplddaaDoor
end

section
/- The functions of the package exact, one after the other: each meets its contract. -/
set_option linter.unusedSimpArgs false
set_option linter.unusedVariables false
set_option maxRecDepth 100000
namespace Go.Proofs.YtkgbdpmhdplddaaDoor
open Go Go.Cm Go.Proofs

def tab14 (B : Base) : Tab := { types := [(3, (.int .i64)), (27, (.int .i64)), (55, (.st (.pair .bool (.slice (.int .u32))))), (56, (.slice (.st (.pair .bool (.slice (.int .u32)))))), (85, (.slice .str))], elems := [(85, 9)], cons := [(30, cReads), (31, cSign), (32, cDivW), (33, cText)], hint := [], N := 39, base := B }
theorem good14 {B : Base} (hB : Tabs B) : MGood Tryd.prog (tab14 B) := ⟨⟨types_cons ty3 (types_cons ty27 (types_cons ty55 (types_cons ty56 (types_cons ty85 (types_nil))))), elems_cons (by kernel_rfl) (elems_nil), by simp only [tab14, ioB]; omega⟩, cons_ok (cals_cons (cal_ok Tryd.func30 (by kernel_rfl) rfl (valid30 hB)) (cals_cons (cal_ok Tryd.func31 (by kernel_rfl) rfl (valid31 hB)) (cals_cons (cal_ok Tryd.func32 (by kernel_rfl) rfl (valid32 hB)) (cals_cons (cal_ok Tryd.func33 (by kernel_rfl) rfl (valid33 hB)) (cals_nil))))), by kernel_rfl⟩
def cDivT : Con := fun l os => match l, os with
  | [.z .str a, .z .str b], [] => some (Short a ∧ Short b, [.z .str (divV1 a b), .z .str (divV2 a b), .z (.int .i64) (divVE a b)], [])
  | _, _ => none

theorem valid14 {B : Base} (hB : Tabs B) : Valid B Tryd.prog 14 cDivT := by
  refine valid_of_J (T := tab14 B) (good14 hB).tab Tryd.func14 rfl rfl rfl ?_
  intro args os C rs os' hc hC
  unfold cDivT at hc
  split at hc
  case h_2 => cases hc
  rename_i a b
  cases hc
  refine ⟨by simp only [List.length_cons, List.length_nil, tab14]; omega, rfl, ?_⟩
  intro X hP hT hr
  have hG : MGood X.P X.T := by rw [hP, hT]; exact good14 hB
  simp only [Tryd.f14, argEnv, ioList, ioB]
  refine r_seq ?_
  refine r_region hG (by simp only [hT, tab14, cReads, cSign, cDivW, cText, mx0, mx1, mx2, mx3, mx4, mx5, effOp, endCall, callOp, appendOp, sliceLV, Ty.fieldTy, Ty.fieldOf, Nat.reduceLT, Nat.reduceEqDiff, Nat.reduceAdd, Nat.reduceMul, Nat.reduceSub, Nat.reduceLeDiff, Nat.reduceBEq, Nat.reduceBNe, reduceIte, reduceDIte, reduceCtorEq]; rfl) ?_ ?_ -- R0
  · trivial
  refine k_seq ?_
  refine r_seq ?_
  refine r_region hG (by simp only [hT, tab14, cReads, cSign, cDivW, cText, mx0, mx1, mx2, mx3, mx4, mx5, effOp, endCall, callOp, appendOp, sliceLV, Ty.fieldTy, Ty.fieldOf, Nat.reduceLT, Nat.reduceEqDiff, Nat.reduceAdd, Nat.reduceMul, Nat.reduceSub, Nat.reduceLeDiff, Nat.reduceBEq, Nat.reduceBNe, reduceIte, reduceDIte, reduceCtorEq]; rfl) ?_ ?_ -- R1
  · try simp only [and_true, true_and]
    exact shorts2 hC
  refine k_seq ?_
  refine r_seq ?_
  refine r_seq ?_
  refine r_region hG (by simp only [hT, tab14, cReads, cSign, cDivW, cText, mx0, mx1, mx2, mx3, mx4, mx5, effOp, endCall, callOp, appendOp, sliceLV, Ty.fieldTy, Ty.fieldOf, Nat.reduceLT, Nat.reduceEqDiff, Nat.reduceAdd, Nat.reduceMul, Nat.reduceSub, Nat.reduceLeDiff, Nat.reduceBEq, Nat.reduceBNe, reduceIte, reduceDIte, reduceCtorEq]; rfl) ?_ ?_ -- R2
  · trivial
  refine k_seq ?_
  refine r_cond (by simp only [hT, tab14, mx0, mx1, mx2, mx3, mx4, mx5, effOp, endCall, callOp, appendOp, sliceLV, Ty.fieldTy, Ty.fieldOf, Nat.reduceLT, Nat.reduceEqDiff, Nat.reduceAdd, Nat.reduceMul, Nat.reduceSub, Nat.reduceLeDiff, Nat.reduceBEq, Nat.reduceBNe, reduceIte, reduceDIte, reduceCtorEq]; rfl) ?_ ?_
  · intro hb0
    try simp only [decide_eq_true_eq, decide_eq_false_iff_not, beq_iff_eq, bne_iff_ne, Bool.not_eq_true', Bool.and_eq_true] at hb0
    refine r_seq ?_
    refine r_region hG (by simp only [hT, tab14, cReads, cSign, cDivW, cText, mx0, mx1, mx2, mx3, mx4, mx5, effOp, endCall, callOp, appendOp, sliceLV, Ty.fieldTy, Ty.fieldOf, Nat.reduceLT, Nat.reduceEqDiff, Nat.reduceAdd, Nat.reduceMul, Nat.reduceSub, Nat.reduceLeDiff, Nat.reduceBEq, Nat.reduceBNe, reduceIte, reduceDIte, reduceCtorEq]; rfl) ?_ ?_ -- R3
    · trivial
    refine k_seq ?_
    refine r_ret ?_
    refine k_seq_ret ?_
    refine ⟨[], ?_⟩
    simp only [hT, tab14, mr0, mr1, mr2, Nat.reduceLT, Nat.reduceEqDiff, Nat.reduceAdd, Nat.reduceMul, Nat.reduceSub, Nat.reduceLeDiff, Nat.reduceBEq, Nat.reduceBNe, reduceIte, reduceDIte, reduceCtorEq]
    exact divT_bad hb0
  · intro hb0
    try simp only [decide_eq_true_eq, decide_eq_false_iff_not, beq_eq_false_iff_ne, bne_eq_false_iff_eq, Bool.not_eq_false', Bool.and_eq_false_imp] at hb0
    refine r_skip ?_
    refine k_seq ?_
    refine r_seq ?_
    refine r_seq ?_
    refine r_region hG (by simp only [hT, tab14, cReads, cSign, cDivW, cText, mx0, mx1, mx2, mx3, mx4, mx5, effOp, endCall, callOp, appendOp, sliceLV, Ty.fieldTy, Ty.fieldOf, Nat.reduceLT, Nat.reduceEqDiff, Nat.reduceAdd, Nat.reduceMul, Nat.reduceSub, Nat.reduceLeDiff, Nat.reduceBEq, Nat.reduceBNe, reduceIte, reduceDIte, reduceCtorEq]; rfl) ?_ ?_ -- R4
    · try simp only [and_true, true_and]
      have h := cmp_side hb0
      exact ⟨h.2.1, h.2.2.2.1⟩
    refine k_seq ?_
    refine r_cond (by simp only [hT, tab14, mx0, mx1, mx2, mx3, mx4, mx5, effOp, endCall, callOp, appendOp, sliceLV, Ty.fieldTy, Ty.fieldOf, Nat.reduceLT, Nat.reduceEqDiff, Nat.reduceAdd, Nat.reduceMul, Nat.reduceSub, Nat.reduceLeDiff, Nat.reduceBEq, Nat.reduceBNe, reduceIte, reduceDIte, reduceCtorEq]; rfl) ?_ ?_
    · intro hb1
      try simp only [decide_eq_true_eq, decide_eq_false_iff_not, beq_iff_eq, bne_iff_ne, Bool.not_eq_true', Bool.and_eq_true] at hb1
      refine r_seq ?_
      refine r_region hG (by simp only [hT, tab14, cReads, cSign, cDivW, cText, mx0, mx1, mx2, mx3, mx4, mx5, effOp, endCall, callOp, appendOp, sliceLV, Ty.fieldTy, Ty.fieldOf, Nat.reduceLT, Nat.reduceEqDiff, Nat.reduceAdd, Nat.reduceMul, Nat.reduceSub, Nat.reduceLeDiff, Nat.reduceBEq, Nat.reduceBNe, reduceIte, reduceDIte, reduceCtorEq]; rfl) ?_ ?_ -- R5
      · trivial
      refine k_seq ?_
      refine r_ret ?_
      refine k_seq_ret ?_
      refine ⟨[], ?_⟩
      simp only [hT, tab14, mr0, mr1, mr2, Nat.reduceLT, Nat.reduceEqDiff, Nat.reduceAdd, Nat.reduceMul, Nat.reduceSub, Nat.reduceLeDiff, Nat.reduceBEq, Nat.reduceBNe, reduceIte, reduceDIte, reduceCtorEq]
      exact divT_zero hb0 hb1
    · intro hb1
      try simp only [decide_eq_true_eq, decide_eq_false_iff_not, beq_eq_false_iff_ne, bne_eq_false_iff_eq, Bool.not_eq_false', Bool.and_eq_false_imp] at hb1
      refine r_skip ?_
      refine k_seq ?_
      refine r_seq ?_
      refine r_draw hG (by simp only [hT, mt0, tab14, cReads, cSign, cDivW, cText, mx0, mx1, mx2, mx3, mx4, mx5, effOp, endCall, callOp, appendOp, sliceLV, Ty.fieldTy, Ty.fieldOf, Nat.reduceLT, Nat.reduceEqDiff, Nat.reduceAdd, Nat.reduceMul, Nat.reduceSub, Nat.reduceLeDiff, Nat.reduceBEq, Nat.reduceBNe, reduceIte, reduceDIte, reduceCtorEq]; rfl) (by kernel_rfl) (by rfl) (by rfl) ?_ ?_ -- R6
      · try simp only [and_true, true_and]
        have h := cmp_side hb0
        exact ⟨h.1, h.2.1, divT_pre hb0 hb1⟩
      refine k_seq ?_
      refine r_seq ?_
      refine r_draw hG (by simp only [hT, mt0, tab14, cReads, cSign, cDivW, cText, mx0, mx1, mx2, mx3, mx4, mx5, effOp, endCall, callOp, appendOp, sliceLV, Ty.fieldTy, Ty.fieldOf, Nat.reduceLT, Nat.reduceEqDiff, Nat.reduceAdd, Nat.reduceMul, Nat.reduceSub, Nat.reduceLeDiff, Nat.reduceBEq, Nat.reduceBNe, reduceIte, reduceDIte, reduceCtorEq]; rfl) (by kernel_rfl) (by rfl) (by rfl) ?_ ?_ -- R7
      · try simp only [and_true, true_and]
        exact divT_wok (divT_pre hb0 hb1)
      refine k_seq ?_
      refine r_ret ?_
      refine ⟨[], ?_⟩
      simp only [hT, tab14, mr0, mr1, mr2, Nat.reduceLT, Nat.reduceEqDiff, Nat.reduceAdd, Nat.reduceMul, Nat.reduceSub, Nat.reduceLeDiff, Nat.reduceBEq, Nat.reduceBNe, reduceIte, reduceDIte, reduceCtorEq]
      exact divT_fin hb0 hb1

def tab24 (B : Base) : Tab := { types := [(9, .str), (27, (.int .i64))], elems := [], cons := [(14, cDivT)], hint := [], N := 31, base := B }
theorem good24 {B : Base} (hB : Tabs B) : MGood Tryd.prog (tab24 B) := ⟨⟨types_cons ty9 (types_cons ty27 (types_nil)), elems_nil, by simp only [tab24, ioB]; omega⟩, cons_ok (cals_cons (cal_ok Tryd.func14 (by kernel_rfl) rfl (valid14 hB)) (cals_nil)), by kernel_rfl⟩
def cDivides : Con := fun l os => match l, os with
  | [.z .str a, .z .str b, .z .str q, .z .str r], [] => some (Short a ∧ Short b, [.z .bool (((divV1 a b == q) && (divV2 a b == r)) && (divVE a b == 0))], [])
  | _, _ => none

theorem valid24 {B : Base} (hB : Tabs B) : Valid B Tryd.prog 24 cDivides := by
  refine valid_of_J (T := tab24 B) (good24 hB).tab Tryd.func24 rfl rfl rfl ?_
  intro args os C rs os' hc hC
  unfold cDivides at hc
  split at hc
  case h_2 => cases hc
  rename_i a b q r
  cases hc
  refine ⟨by simp only [List.length_cons, List.length_nil, tab24]; omega, rfl, ?_⟩
  intro X hP hT hr
  have hG : MGood X.P X.T := by rw [hP, hT]; exact good24 hB
  simp only [Tryd.f24, argEnv, ioList, ioB]
  refine r_seq ?_
  refine r_region hG (by simp only [hT, tab24, cDivT, mx0, mx1, mx2, mx3, mx4, mx5, effOp, endCall, callOp, appendOp, sliceLV, Ty.fieldTy, Ty.fieldOf, Nat.reduceLT, Nat.reduceEqDiff, Nat.reduceAdd, Nat.reduceMul, Nat.reduceSub, Nat.reduceLeDiff, Nat.reduceBEq, Nat.reduceBNe, reduceIte, reduceDIte, reduceCtorEq]; rfl) ?_ ?_ -- R0
  · trivial
  refine k_seq ?_
  refine r_seq ?_
  refine r_region hG (by simp only [hT, tab24, cDivT, mx0, mx1, mx2, mx3, mx4, mx5, effOp, endCall, callOp, appendOp, sliceLV, Ty.fieldTy, Ty.fieldOf, Nat.reduceLT, Nat.reduceEqDiff, Nat.reduceAdd, Nat.reduceMul, Nat.reduceSub, Nat.reduceLeDiff, Nat.reduceBEq, Nat.reduceBNe, reduceIte, reduceDIte, reduceCtorEq]; rfl) ?_ ?_ -- R1
  · try simp only [and_true, true_and]
    exact hC
  refine k_seq ?_
  refine r_seq ?_
  refine r_region hG (by simp only [hT, tab24, cDivT, mx0, mx1, mx2, mx3, mx4, mx5, effOp, endCall, callOp, appendOp, sliceLV, Ty.fieldTy, Ty.fieldOf, Nat.reduceLT, Nat.reduceEqDiff, Nat.reduceAdd, Nat.reduceMul, Nat.reduceSub, Nat.reduceLeDiff, Nat.reduceBEq, Nat.reduceBNe, reduceIte, reduceDIte, reduceCtorEq]; rfl) ?_ ?_ -- R2
  · try simp only [and_true, true_and]
    (repeat' (first | apply And.intro | intro _)) <;> (try simp only [decide_eq_true_eq, decide_eq_false_iff_not, Bool.not_eq_true', beq_iff_eq, Int.toNat_natCast] at *) <;> first | assumption | omega | trivial | (simp_all; done) | (simp_all; omega)
  refine k_seq ?_
  refine r_ret ?_
  refine ⟨[], ?_⟩
  simp only [hT, tab24, mr0, mr1, mr2, Nat.reduceLT, Nat.reduceEqDiff, Nat.reduceAdd, Nat.reduceMul, Nat.reduceSub, Nat.reduceLeDiff, Nat.reduceBEq, Nat.reduceBNe, reduceIte, reduceDIte, reduceCtorEq]
  skip

end Go.Proofs.YtkgbdpmhdplddaaDoor
end

section
/- The functions of the package exact, one after the other: each meets its contract. -/
set_option linter.unusedSimpArgs false
set_option linter.unusedVariables false
set_option maxRecDepth 100000
namespace Go.Proofs.YtkgbdpmhdplddaaDoor
open Go Go.Cm Go.Proofs

def tab46 (B : Base) : Tab := { types := [(3, (.int .i64)), (55, (.st (.pair .bool (.slice (.int .u32))))), (56, (.slice (.st (.pair .bool (.slice (.int .u32))))))], elems := [], cons := [(27, cMul), (47, cDigits)], hint := [], N := 11, base := B }
theorem good46 {B : Base} (hB : Tabs B) : MGood Tryd.prog (tab46 B) := ⟨⟨types_cons ty3 (types_cons ty55 (types_cons ty56 (types_nil))), elems_nil, by simp only [tab46, ioB]; omega⟩, cons_ok (cals_cons (cal_ok Tryd.func27 (by kernel_rfl) rfl (valid27 hB)) (cals_cons (cal_ok Tryd.func47 (by kernel_rfl) rfl (valid47 hB)) (cals_nil))), by kernel_rfl⟩
def cPowF : Con := fun l os => match l, os with
  | [.ownP 10000000 0, .ownP 10000001 0], [.box 55 [.z .bool s, .z (.slice (.int .u32)) m], .box 56 [.z (.slice (.st (.pair .bool (.slice (.int .u32))))) l]] => some (WOK (s, m) ∧ 0 < l.length ∧ WOK (nth WT l 0) ∧ m.length ≤ 300 ∧ (nth WT l 0).2.length ≤ 300, [.z .bool (decide (ndig (dec (s, m) * dec (nth WT l 0)) ≤ 2000))], [.box 55 [.z .bool (enc (dec (s, m) * dec (nth WT l 0))).1, .z (.slice (.int .u32)) (enc (dec (s, m) * dec (nth WT l 0))).2], .box 56 [.z (.slice (.st (.pair .bool (.slice (.int .u32))))) l]])
  | _, _ => none

theorem valid46 {B : Base} (hB : Tabs B) : Valid B Tryd.prog 46 cPowF := by
  refine valid_of_J (T := tab46 B) (good46 hB).tab Tryd.func46 rfl rfl rfl ?_
  intro args os C rs os' hc hC
  unfold cPowF at hc
  split at hc
  case h_2 => cases hc
  rename_i s m l
  cases hc
  refine ⟨by simp only [List.length_cons, List.length_nil, tab46]; omega, rfl, ?_⟩
  intro X hP hT hr
  have hG : MGood X.P X.T := by rw [hP, hT]; exact good46 hB
  simp only [Tryd.f46, argEnv, ioList, ioB]
  refine r_seq ?_
  refine r_region hG (by simp only [hT, tab46, cMul, cDigits, mx0, mx1, mx2, mx3, mx4, mx5, effOp, endCall, callOp, appendOp, sliceLV, Ty.fieldTy, Ty.fieldOf, Nat.reduceLT, Nat.reduceEqDiff, Nat.reduceAdd, Nat.reduceMul, Nat.reduceSub, Nat.reduceLeDiff, Nat.reduceBEq, Nat.reduceBNe, reduceIte, reduceDIte, reduceCtorEq]; rfl) ?_ ?_ -- R0
  · trivial
  refine k_seq ?_
  refine r_seq ?_
  refine r_draw hG (by simp only [hT, mt0, tab46, cMul, cDigits, mx0, mx1, mx2, mx3, mx4, mx5, effOp, endCall, callOp, appendOp, sliceLV, Ty.fieldTy, Ty.fieldOf, Nat.reduceLT, Nat.reduceEqDiff, Nat.reduceAdd, Nat.reduceMul, Nat.reduceSub, Nat.reduceLeDiff, Nat.reduceBEq, Nat.reduceBNe, reduceIte, reduceDIte, reduceCtorEq]; rfl) (by kernel_rfl) (by rfl) (by rfl) ?_ ?_ -- R1
  · try simp only [and_true, true_and]
    obtain ⟨c1, c2, c3, c4, c5⟩ := hC
    exact ⟨⟨by decide, Int.natCast_pos.2 c2⟩, c1, c3, Nat.lt_of_le_of_lt (Nat.add_le_add c4 c5) (by decide)⟩
  refine k_seq ?_
  refine r_seq ?_
  refine r_region hG (by simp only [hT, tab46, cMul, cDigits, mx0, mx1, mx2, mx3, mx4, mx5, effOp, endCall, callOp, appendOp, sliceLV, Ty.fieldTy, Ty.fieldOf, Nat.reduceLT, Nat.reduceEqDiff, Nat.reduceAdd, Nat.reduceMul, Nat.reduceSub, Nat.reduceLeDiff, Nat.reduceBEq, Nat.reduceBNe, reduceIte, reduceDIte, reduceCtorEq]; rfl) ?_ ?_ -- R2
  · try simp only [and_true, true_and]
    obtain ⟨c1, c2, c3, c4, c5⟩ := hC
    exact ⟨enc_ok _, Nat.lt_of_le_of_lt (mul_len c1 c3 c4 c5) (by decide)⟩
  refine k_seq ?_
  refine r_ret ?_
  refine ⟨[], ?_⟩
  simp only [hT, tab46, mr0, mr1, mr2, Nat.reduceLT, Nat.reduceEqDiff, Nat.reduceAdd, Nat.reduceMul, Nat.reduceSub, Nat.reduceLeDiff, Nat.reduceBEq, Nat.reduceBNe, reduceIte, reduceDIte, reduceCtorEq]
  rw [show ∀ n : Int, dec ((enc n).1, (enc n).2) = n from dec_enc]

end Go.Proofs.YtkgbdpmhdplddaaDoor
end

section
/- The functions of the package exact, one after the other: each meets its contract. -/
set_option linter.unusedSimpArgs false
set_option linter.unusedVariables false
set_option maxRecDepth 100000
namespace Go.Proofs.YtkgbdpmhdplddaaDoor
open Go Go.Cm Go.Proofs

def tab23 (B : Base) : Tab := { types := [(3, (.int .i64)), (27, (.int .i64)), (55, (.st (.pair .bool (.slice (.int .u32))))), (56, (.slice (.st (.pair .bool (.slice (.int .u32)))))), (85, (.slice .str))], elems := [(85, 9)], cons := [(27, cMul), (30, cReads), (34, cCmp), (37, cSmall), (46, cPowF), (48, cTold)], hint := [], N := 57, base := B }
theorem good23 {B : Base} (hB : Tabs B) : MGood Tryd.prog (tab23 B) := ⟨⟨types_cons ty3 (types_cons ty27 (types_cons ty55 (types_cons ty56 (types_cons ty85 (types_nil))))), elems_cons (by kernel_rfl) (elems_nil), by simp only [tab23, ioB]; omega⟩, cons_ok (cals_cons (cal_ok Tryd.func27 (by kernel_rfl) rfl (valid27 hB)) (cals_cons (cal_ok Tryd.func30 (by kernel_rfl) rfl (valid30 hB)) (cals_cons (cal_ok Tryd.func34 (by kernel_rfl) rfl (valid34 hB)) (cals_cons (cal_ok Tryd.func37 (by kernel_rfl) rfl (valid37 hB)) (cals_cons (cal_ok Tryd.func46 (by kernel_rfl) rfl (valid46 hB)) (cals_cons (cal_ok Tryd.func48 (by kernel_rfl) rfl (valid48 hB)) (cals_nil))))))), by kernel_rfl⟩
def cPow : Con := fun l os => match l, os with
  | [.z .str s, .z (.int .i64) n], [] => some (Short s ∧ I64 n, [.z .str (powV s n), .z (.int .i64) (powE s n)], [])
  | _, _ => none

theorem valid23 {B : Base} (hB : Tabs B) : Valid B Tryd.prog 23 cPow := by
  refine valid_of_J (T := tab23 B) (good23 hB).tab Tryd.func23 rfl rfl rfl ?_
  intro args os C rs os' hc hC
  unfold cPow at hc
  split at hc
  case h_2 => cases hc
  rename_i s n
  cases hc
  refine ⟨by simp only [List.length_cons, List.length_nil, tab23]; omega, rfl, ?_⟩
  intro X hP hT hr
  have hG : MGood X.P X.T := by rw [hP, hT]; exact good23 hB
  simp only [Tryd.f23, argEnv, ioList, ioB]
  refine r_seq ?_
  refine r_region hG (by simp only [hT, tab23, cReads, cSmall, cMul, cCmp, cPowF, cTold, mx0, mx1, mx2, mx3, mx4, mx5, effOp, endCall, callOp, appendOp, sliceLV, Ty.fieldTy, Ty.fieldOf, Nat.reduceLT, Nat.reduceEqDiff, Nat.reduceAdd, Nat.reduceMul, Nat.reduceSub, Nat.reduceLeDiff, Nat.reduceBEq, Nat.reduceBNe, reduceIte, reduceDIte, reduceCtorEq]; rfl) ?_ ?_ -- R0
  · trivial
  refine k_seq ?_
  refine r_seq ?_
  refine r_region hG (by simp only [hT, tab23, cReads, cSmall, cMul, cCmp, cPowF, cTold, mx0, mx1, mx2, mx3, mx4, mx5, effOp, endCall, callOp, appendOp, sliceLV, Ty.fieldTy, Ty.fieldOf, Nat.reduceLT, Nat.reduceEqDiff, Nat.reduceAdd, Nat.reduceMul, Nat.reduceSub, Nat.reduceLeDiff, Nat.reduceBEq, Nat.reduceBNe, reduceIte, reduceDIte, reduceCtorEq]; rfl) ?_ ?_ -- R1
  · try simp only [and_true, true_and]
    exact shorts1 hC.1
  refine k_seq ?_
  refine r_seq ?_
  refine r_seq ?_
  refine r_region hG (by simp only [hT, tab23, cReads, cSmall, cMul, cCmp, cPowF, cTold, mx0, mx1, mx2, mx3, mx4, mx5, effOp, endCall, callOp, appendOp, sliceLV, Ty.fieldTy, Ty.fieldOf, Nat.reduceLT, Nat.reduceEqDiff, Nat.reduceAdd, Nat.reduceMul, Nat.reduceSub, Nat.reduceLeDiff, Nat.reduceBEq, Nat.reduceBNe, reduceIte, reduceDIte, reduceCtorEq]; rfl) ?_ ?_ -- R2
  · trivial
  refine k_seq ?_
  refine r_cond (by simp only [hT, tab23, mx0, mx1, mx2, mx3, mx4, mx5, effOp, endCall, callOp, appendOp, sliceLV, Ty.fieldTy, Ty.fieldOf, Nat.reduceLT, Nat.reduceEqDiff, Nat.reduceAdd, Nat.reduceMul, Nat.reduceSub, Nat.reduceLeDiff, Nat.reduceBEq, Nat.reduceBNe, reduceIte, reduceDIte, reduceCtorEq]; rfl) ?_ ?_
  · intro hb0
    try simp only [decide_eq_true_eq, decide_eq_false_iff_not, beq_iff_eq, bne_iff_ne, Bool.not_eq_true', Bool.and_eq_true] at hb0
    refine r_seq ?_
    refine r_region hG (by simp only [hT, tab23, cReads, cSmall, cMul, cCmp, cPowF, cTold, mx0, mx1, mx2, mx3, mx4, mx5, effOp, endCall, callOp, appendOp, sliceLV, Ty.fieldTy, Ty.fieldOf, Nat.reduceLT, Nat.reduceEqDiff, Nat.reduceAdd, Nat.reduceMul, Nat.reduceSub, Nat.reduceLeDiff, Nat.reduceBEq, Nat.reduceBNe, reduceIte, reduceDIte, reduceCtorEq]; rfl) ?_ ?_ -- R3
    · trivial
    refine k_seq ?_
    refine r_ret ?_
    refine k_seq_ret ?_
    refine ⟨[], ?_⟩
    simp only [hT, tab23, mr0, mr1, mr2, Nat.reduceLT, Nat.reduceEqDiff, Nat.reduceAdd, Nat.reduceMul, Nat.reduceSub, Nat.reduceLeDiff, Nat.reduceBEq, Nat.reduceBNe, reduceIte, reduceDIte, reduceCtorEq]
    exact pow_bad hb0
  · intro hb0
    try simp only [decide_eq_false_iff_not, beq_eq_false_iff_ne, bne_eq_false_iff_eq] at hb0
    obtain ⟨r1, r2, r3, r4⟩ := read1 hb0
    have hI := I64.b hC.2
    refine r_skip ?_
    refine k_seq ?_
    refine r_seq ?_
    refine r_seq ?_
    refine r_region hG (by simp only [hT, tab23, cReads, cSmall, cMul, cCmp, cPowF, cTold, mx0, mx1, mx2, mx3, mx4, mx5, effOp, endCall, callOp, appendOp, sliceLV, Ty.fieldTy, Ty.fieldOf, Nat.reduceLT, Nat.reduceEqDiff, Nat.reduceAdd, Nat.reduceMul, Nat.reduceSub, Nat.reduceLeDiff, Nat.reduceBEq, Nat.reduceBNe, reduceIte, reduceDIte, reduceCtorEq]; rfl) ?_ ?_ -- R4
    · try simp only [and_true, true_and]
      exact ⟨fun h => h, fun h => by rw [h]; rfl⟩
    refine k_seq ?_
    refine r_cond (by simp only [hT, tab23, mx0, mx1, mx2, mx3, mx4, mx5, effOp, endCall, callOp, appendOp, sliceLV, Ty.fieldTy, Ty.fieldOf, Nat.reduceLT, Nat.reduceEqDiff, Nat.reduceAdd, Nat.reduceMul, Nat.reduceSub, Nat.reduceLeDiff, Nat.reduceBEq, Nat.reduceBNe, reduceIte, reduceDIte, reduceCtorEq]; rfl) ?_ ?_
    · intro hb1
      have hnn : n < 0 ∨ 10000 < n := by simpa using hb1
      refine r_seq ?_
      refine r_region hG (by simp only [hT, tab23, cReads, cSmall, cMul, cCmp, cPowF, cTold, mx0, mx1, mx2, mx3, mx4, mx5, effOp, endCall, callOp, appendOp, sliceLV, Ty.fieldTy, Ty.fieldOf, Nat.reduceLT, Nat.reduceEqDiff, Nat.reduceAdd, Nat.reduceMul, Nat.reduceSub, Nat.reduceLeDiff, Nat.reduceBEq, Nat.reduceBNe, reduceIte, reduceDIte, reduceCtorEq]; rfl) ?_ ?_ -- R5
      · trivial
      refine k_seq ?_
      refine r_ret ?_
      refine k_seq_ret ?_
      refine ⟨[], ?_⟩
      simp only [hT, tab23, mr0, mr1, mr2, Nat.reduceLT, Nat.reduceEqDiff, Nat.reduceAdd, Nat.reduceMul, Nat.reduceSub, Nat.reduceLeDiff, Nat.reduceBEq, Nat.reduceBNe, reduceIte, reduceDIte, reduceCtorEq]
      exact pow_out r1 hnn
    · intro hb1
      have hnn : ¬ (n < 0 ∨ 10000 < n) := by simpa using hb1
      have hin := pow_in hnn
      refine r_skip ?_
      refine k_seq ?_
      refine r_seq ?_
      refine r_region hG (by simp only [hT, tab23, cReads, cSmall, cMul, cCmp, cPowF, cTold, mx0, mx1, mx2, mx3, mx4, mx5, effOp, endCall, callOp, appendOp, sliceLV, Ty.fieldTy, Ty.fieldOf, Nat.reduceLT, Nat.reduceEqDiff, Nat.reduceAdd, Nat.reduceMul, Nat.reduceSub, Nat.reduceLeDiff, Nat.reduceBEq, Nat.reduceBNe, reduceIte, reduceDIte, reduceCtorEq]; rfl) ?_ ?_ -- R6
      · try simp only [and_true, true_and]
        unfold I64; omega
      refine k_seq ?_
      refine r_cut (fun (z : Int) => (⟨[(6, .l (.ownP 6 0)), (1, .l (.z (.int .i64) z)), (8, .l (.ownP 8 0))], [(6, .box 56 [.z (.slice (.st (.pair .bool (.slice (.int .u32))))) (readAll [s])]), (8, .box 55 [.z .bool (enc 1).1, .z (.slice (.int .u32)) (enc 1).2])]⟩ : AState)) (fun z => z = powN (numI s) n) ?_ ?_
      · refine r_seq ?_
        refine r_draw hG (by simp only [hT, mt0, tab23, cReads, cSmall, cMul, cCmp, cPowF, cTold, mx0, mx1, mx2, mx3, mx4, mx5, effOp, endCall, callOp, appendOp, sliceLV, Ty.fieldTy, Ty.fieldOf, Nat.reduceLT, Nat.reduceEqDiff, Nat.reduceAdd, Nat.reduceMul, Nat.reduceSub, Nat.reduceLeDiff, Nat.reduceBEq, Nat.reduceBNe, reduceIte, reduceDIte, reduceCtorEq]; rfl) (by kernel_rfl) (by rfl) (by rfl) ?_ ?_ -- R7
        · try simp only [and_true, true_and]
          rw [r3]
          exact ⟨⟨by omega, r2⟩, ⟨by omega, r2⟩, enc_ok _, enc_ok _, by unfold CAP; omega⟩
        refine k_seq ?_
        refine r_seq ?_
        refine r_region hG (by simp only [hT, tab23, cReads, cSmall, cMul, cCmp, cPowF, cTold, mx0, mx1, mx2, mx3, mx4, mx5, effOp, endCall, callOp, appendOp, sliceLV, Ty.fieldTy, Ty.fieldOf, Nat.reduceLT, Nat.reduceEqDiff, Nat.reduceAdd, Nat.reduceMul, Nat.reduceSub, Nat.reduceLeDiff, Nat.reduceBEq, Nat.reduceBNe, reduceIte, reduceDIte, reduceCtorEq]; rfl) ?_ ?_ -- R8
        · try simp only [and_true, true_and]
          rw [r3]
          have hm := mul_len (x := enc (numI s)) (y := enc (numI s)) (enc_ok _) (enc_ok _) (by omega) (by omega)
          have h1 := enc_small (n := 1) (by unfold I64; omega)
          exact ⟨enc_ok _, enc_ok _, by unfold CAP; omega⟩
        refine k_seq ?_
        refine r_cond (by simp only [hT, tab23, mx0, mx1, mx2, mx3, mx4, mx5, effOp, endCall, callOp, appendOp, sliceLV, Ty.fieldTy, Ty.fieldOf, Nat.reduceLT, Nat.reduceEqDiff, Nat.reduceAdd, Nat.reduceMul, Nat.reduceSub, Nat.reduceLeDiff, Nat.reduceBEq, Nat.reduceBNe, reduceIte, reduceDIte, reduceCtorEq]; rfl) ?_ ?_
        · intro hb2
          try simp only [decide_eq_true_eq, decide_eq_false_iff_not, beq_iff_eq, bne_iff_ne, Bool.not_eq_true', Bool.and_eq_true] at hb2
          refine r_region hG (by simp only [hT, tab23, cReads, cSmall, cMul, cCmp, cPowF, cTold, mx0, mx1, mx2, mx3, mx4, mx5, effOp, endCall, callOp, appendOp, sliceLV, Ty.fieldTy, Ty.fieldOf, Nat.reduceLT, Nat.reduceEqDiff, Nat.reduceAdd, Nat.reduceMul, Nat.reduceSub, Nat.reduceLeDiff, Nat.reduceBEq, Nat.reduceBNe, reduceIte, reduceDIte, reduceCtorEq]; rfl) ?_ ?_ -- R9
          · try simp only [and_true, true_and]
            decide
          show ∃ z, _
          simp only [ml0, ml1, Nat.reduceLT, Nat.reduceEqDiff, Nat.reduceAdd, Nat.reduceMul, Nat.reduceSub, Nat.reduceLeDiff, Nat.reduceBEq, Nat.reduceBNe, reduceIte, reduceDIte, reduceCtorEq]
          first | (have h2 := (pow_cond (y := nth WT (readAll [s]) 0) r3).1 hb2; unfold powN; rw [if_pos h2, wi (by have := Int.tmod_lt_of_pos n (show (0 : Int) < 2 by decide); have := Int.lt_tmod_of_pos n (show (0 : Int) < 2 by decide); omega) (by have := Int.tmod_lt_of_pos n (show (0 : Int) < 2 by decide); have := Int.lt_tmod_of_pos n (show (0 : Int) < 2 by decide); omega)]) | (unfold powN; rw [if_neg (fun h => hb2 ((pow_cond (y := nth WT (readAll [s]) 0) r3).2 h))])
        · intro hb2
          try simp only [decide_eq_true_eq, decide_eq_false_iff_not, beq_eq_false_iff_ne, bne_eq_false_iff_eq, Bool.not_eq_false', Bool.and_eq_false_imp] at hb2
          refine r_skip ?_
          show ∃ z, _
          simp only [ml0, ml1, Nat.reduceLT, Nat.reduceEqDiff, Nat.reduceAdd, Nat.reduceMul, Nat.reduceSub, Nat.reduceLeDiff, Nat.reduceBEq, Nat.reduceBNe, reduceIte, reduceDIte, reduceCtorEq]
          first | (have h2 := (pow_cond (y := nth WT (readAll [s]) 0) r3).1 hb2; unfold powN; rw [if_pos h2, wi (by have := Int.tmod_lt_of_pos n (show (0 : Int) < 2 by decide); have := Int.lt_tmod_of_pos n (show (0 : Int) < 2 by decide); omega) (by have := Int.tmod_lt_of_pos n (show (0 : Int) < 2 by decide); have := Int.lt_tmod_of_pos n (show (0 : Int) < 2 by decide); omega)]) | (unfold powN; rw [if_neg (fun h => hb2 ((pow_cond (y := nth WT (readAll [s]) 0) r3).2 h))])
      rintro nn hn
      try dsimp only at hn
      subst hn
      refine r_seq ?_
      refine r_region hG (by simp only [hT, tab23, cReads, cSmall, cMul, cCmp, cPowF, cTold, mx0, mx1, mx2, mx3, mx4, mx5, effOp, endCall, callOp, appendOp, sliceLV, Ty.fieldTy, Ty.fieldOf, Nat.reduceLT, Nat.reduceEqDiff, Nat.reduceAdd, Nat.reduceMul, Nat.reduceSub, Nat.reduceLeDiff, Nat.reduceBEq, Nat.reduceBNe, reduceIte, reduceDIte, reduceCtorEq]; rfl) ?_ ?_ -- R10
      · trivial
      refine k_seq ?_
      refine r_seq ?_
      refine r_region hG (by simp only [hT, tab23, cReads, cSmall, cMul, cCmp, cPowF, cTold, mx0, mx1, mx2, mx3, mx4, mx5, effOp, endCall, callOp, appendOp, sliceLV, Ty.fieldTy, Ty.fieldOf, Nat.reduceLT, Nat.reduceEqDiff, Nat.reduceAdd, Nat.reduceMul, Nat.reduceSub, Nat.reduceLeDiff, Nat.reduceBEq, Nat.reduceBNe, reduceIte, reduceDIte, reduceCtorEq]; rfl) ?_ ?_ -- R11
      · trivial
      refine k_seq ?_
      refine r_seq ?_
      refine r_seq ?_
      refine r_region hG (by simp only [hT, tab23, cReads, cSmall, cMul, cCmp, cPowF, cTold, mx0, mx1, mx2, mx3, mx4, mx5, effOp, endCall, callOp, appendOp, sliceLV, Ty.fieldTy, Ty.fieldOf, Nat.reduceLT, Nat.reduceEqDiff, Nat.reduceAdd, Nat.reduceMul, Nat.reduceSub, Nat.reduceLeDiff, Nat.reduceBEq, Nat.reduceBNe, reduceIte, reduceDIte, reduceCtorEq]; rfl) ?_ ?_ -- R12
      · trivial
      refine k_seq ?_
      refine j_block ?_
      refine j_loop (fun (z : Nat × Int) => (⟨[(6, .l (.ownP 6 0)), (10, .l (.ownP 10 0)), (11, .l (.fn 46 [.p 10, .p 6])), (46, .l (.z (.int .i64) (powN (numI s) n))), (47, .l (.z (.int .i64) (z.1 : Int)))], [(6, .box 56 [.z (.slice (.st (.pair .bool (.slice (.int .u32))))) (readAll [s])]), (10, .box 55 [.z .bool (enc z.2).1, .z (.slice (.int .u32)) (enc z.2).2])]⟩ : AState)) (fun z => PowPhi s n z.1 z.2) (fun z => (powN (numI s) n).toNat - z.1) (0, 1) ?_ ?_ ?_
      · simp only [ml0, ml1, Nat.reduceLT, Nat.reduceEqDiff, Nat.reduceAdd, Nat.reduceMul, Nat.reduceSub, Nat.reduceLeDiff, Nat.reduceBEq, Nat.reduceBNe, reduceIte, reduceDIte, reduceCtorEq]
        rfl
      · exact pow_start (by omega)
      · rintro ⟨k, p⟩ hz
        try dsimp only at hz
        have hzl := ndig_len hz.hd
        refine r_seq ?_
        refine r_region hG (by simp only [hT, tab23, cReads, cSmall, cMul, cCmp, cPowF, cTold, mx0, mx1, mx2, mx3, mx4, mx5, effOp, endCall, callOp, appendOp, sliceLV, Ty.fieldTy, Ty.fieldOf, Nat.reduceLT, Nat.reduceEqDiff, Nat.reduceAdd, Nat.reduceMul, Nat.reduceSub, Nat.reduceLeDiff, Nat.reduceBEq, Nat.reduceBNe, reduceIte, reduceDIte, reduceCtorEq]; rfl) ?_ ?_ -- R13
        · trivial
        refine k_seq ?_
        refine r_seq ?_
        refine r_cond (by simp only [hT, tab23, mx0, mx1, mx2, mx3, mx4, mx5, effOp, endCall, callOp, appendOp, sliceLV, Ty.fieldTy, Ty.fieldOf, Nat.reduceLT, Nat.reduceEqDiff, Nat.reduceAdd, Nat.reduceMul, Nat.reduceSub, Nat.reduceLeDiff, Nat.reduceBEq, Nat.reduceBNe, reduceIte, reduceDIte, reduceCtorEq]; rfl) ?_ ?_
        · intro hb3
          try simp only [decide_eq_true_eq] at hb3
          have hpn := powN_le (x := numI s) (n := n) (by omega)
          refine r_skip ?_
          refine k_seq ?_
          refine r_seq ?_
          refine j_block ?_
          refine r_seq ?_
          refine r_region hG (by simp only [hT, tab23, cReads, cSmall, cMul, cCmp, cPowF, cTold, mx0, mx1, mx2, mx3, mx4, mx5, effOp, endCall, callOp, appendOp, sliceLV, Ty.fieldTy, Ty.fieldOf, Nat.reduceLT, Nat.reduceEqDiff, Nat.reduceAdd, Nat.reduceMul, Nat.reduceSub, Nat.reduceLeDiff, Nat.reduceBEq, Nat.reduceBNe, reduceIte, reduceDIte, reduceCtorEq]; rfl) ?_ ?_ -- R14
          · try simp only [and_true, true_and]
            rw [r3]
            exact ⟨enc_ok p, Int.natCast_pos.1 r2, enc_ok _, by omega, by omega⟩
          refine k_seq ?_
          refine r_cond (by simp only [hT, tab23, mx0, mx1, mx2, mx3, mx4, mx5, effOp, endCall, callOp, appendOp, sliceLV, Ty.fieldTy, Ty.fieldOf, Nat.reduceLT, Nat.reduceEqDiff, Nat.reduceAdd, Nat.reduceMul, Nat.reduceSub, Nat.reduceLeDiff, Nat.reduceBEq, Nat.reduceBNe, reduceIte, reduceDIte, reduceCtorEq]; rfl) ?_ ?_
          · intro hb4
            try simp only [decide_eq_true_eq, decide_eq_false_iff_not, beq_iff_eq, bne_iff_ne, Bool.not_eq_true', Bool.and_eq_true] at hb4
            refine r_seq ?_
            refine r_region hG (by simp only [hT, tab23, cReads, cSmall, cMul, cCmp, cPowF, cTold, mx0, mx1, mx2, mx3, mx4, mx5, effOp, endCall, callOp, appendOp, sliceLV, Ty.fieldTy, Ty.fieldOf, Nat.reduceLT, Nat.reduceEqDiff, Nat.reduceAdd, Nat.reduceMul, Nat.reduceSub, Nat.reduceLeDiff, Nat.reduceBEq, Nat.reduceBNe, reduceIte, reduceDIte, reduceCtorEq]; rfl) ?_ ?_ -- R15
            · trivial
            refine k_seq ?_
            refine r_ret ?_
            refine k_block_ret ?_
            refine k_seq_ret ?_
            refine k_round_ret ?_
            refine k_block_ret ?_
            refine k_seq_ret ?_
            refine ⟨[], ?_⟩
            simp only [hT, tab23, mr0, mr1, mr2, Nat.reduceLT, Nat.reduceEqDiff, Nat.reduceAdd, Nat.reduceMul, Nat.reduceSub, Nat.reduceLeDiff, Nat.reduceBEq, Nat.reduceBNe, reduceIte, reduceDIte, reduceCtorEq]
            exact pow_long r1 hnn hz hb3 (by have h := hb4; rw [r3, dec_enc, dec_enc] at h; exact h)
          · intro hb4
            try simp only [decide_eq_true_eq, decide_eq_false_iff_not, beq_eq_false_iff_ne, bne_eq_false_iff_eq, Bool.not_eq_false', Bool.and_eq_false_imp] at hb4
            refine r_skip ?_
            refine k_block ?_
            refine k_seq ?_
            refine r_region hG (by simp only [hT, tab23, cReads, cSmall, cMul, cCmp, cPowF, cTold, mx0, mx1, mx2, mx3, mx4, mx5, effOp, endCall, callOp, appendOp, sliceLV, Ty.fieldTy, Ty.fieldOf, Nat.reduceLT, Nat.reduceEqDiff, Nat.reduceAdd, Nat.reduceMul, Nat.reduceSub, Nat.reduceLeDiff, Nat.reduceBEq, Nat.reduceBNe, reduceIte, reduceDIte, reduceCtorEq]; rfl) ?_ ?_ -- R16
            · trivial
            show ∃ z, _
            simp only [ml0, ml1, Nat.reduceLT, Nat.reduceEqDiff, Nat.reduceAdd, Nat.reduceMul, Nat.reduceSub, Nat.reduceLeDiff, Nat.reduceBEq, Nat.reduceBNe, reduceIte, reduceDIte, reduceCtorEq]
            have hb5 : ndig (p * numI s) ≤ 2000 := by have h := hb4; rw [r3, dec_enc, dec_enc] at h; exact h
            rw [r3, dec_enc, dec_enc]
            exact ⟨k + 1, by rw [wi (by omega) (by omega)]; simp, p * numI s, rfl, rfl, pow_next hz hb3 hb5, by omega⟩
        · intro hb3
          try simp only [decide_eq_true_eq, decide_eq_false_iff_not, beq_eq_false_iff_ne, bne_eq_false_iff_eq, Bool.not_eq_false', Bool.and_eq_false_imp] at hb3
          refine r_exit ?_
          refine k_seq_exit ?_
          refine k_round_exit ?_
          refine k_block_exit ?_
          refine k_seq ?_
          refine r_seq ?_
          refine r_region hG (by simp only [hT, tab23, cReads, cSmall, cMul, cCmp, cPowF, cTold, mx0, mx1, mx2, mx3, mx4, mx5, effOp, endCall, callOp, appendOp, sliceLV, Ty.fieldTy, Ty.fieldOf, Nat.reduceLT, Nat.reduceEqDiff, Nat.reduceAdd, Nat.reduceMul, Nat.reduceSub, Nat.reduceLeDiff, Nat.reduceBEq, Nat.reduceBNe, reduceIte, reduceDIte, reduceCtorEq]; rfl) ?_ ?_ -- R17
          · try simp only [and_true, true_and]
            exact ⟨enc_ok p, by have := ndig_len hz.hd; unfold CAP; omega⟩
          refine k_seq ?_
          refine r_ret ?_
          refine ⟨[], ?_⟩
          simp only [hT, tab23, mr0, mr1, mr2, Nat.reduceLT, Nat.reduceEqDiff, Nat.reduceAdd, Nat.reduceMul, Nat.reduceSub, Nat.reduceLeDiff, Nat.reduceBEq, Nat.reduceBNe, reduceIte, reduceDIte, reduceCtorEq]
          exact pow_done r1 hnn hz hb3

end Go.Proofs.YtkgbdpmhdplddaaDoor
end

section
/- The functions of the package exact, one after the other: each meets its contract. -/
set_option linter.unusedSimpArgs false
set_option linter.unusedVariables false
set_option maxRecDepth 100000
namespace Go.Proofs.YtkgbdpmhdplddaaDoor
open Go Go.Cm Go.Proofs

def tab8 (B : Base) : Tab := { types := [(3, (.int .i64)), (9, .str), (27, (.int .i64)), (48, (.arr 5 .str))], elems := [], cons := [(10, cAddT), (11, cMulT), (12, cIs), (13, cSubT), (14, cDivT), (15, cCmpT), (16, cGcdT), (19, cIntT), (20, cCheck), (22, cFails), (23, cPow), (24, cDivides), (28, cIsF), (45, cFailsF)], hint := [], N := 144, base := B }
theorem good8 {B : Base} (hB : Tabs B) : MGood Tryd.prog (tab8 B) := ⟨⟨types_cons ty3 (types_cons ty9 (types_cons ty27 (types_cons ty48 (types_nil)))), elems_nil, by simp only [tab8, ioB]; omega⟩, cons_ok (cals_cons (cal_ok Tryd.func10 (by kernel_rfl) rfl (valid10 hB)) (cals_cons (cal_ok Tryd.func11 (by kernel_rfl) rfl (valid11 hB)) (cals_cons (cal_ok Tryd.func12 (by kernel_rfl) rfl (valid12 hB)) (cals_cons (cal_ok Tryd.func13 (by kernel_rfl) rfl (valid13 hB)) (cals_cons (cal_ok Tryd.func14 (by kernel_rfl) rfl (valid14 hB)) (cals_cons (cal_ok Tryd.func15 (by kernel_rfl) rfl (valid15 hB)) (cals_cons (cal_ok Tryd.func16 (by kernel_rfl) rfl (valid16 hB)) (cals_cons (cal_ok Tryd.func19 (by kernel_rfl) rfl (valid19 hB)) (cals_cons (cal_ok Tryd.func20 (by kernel_rfl) rfl (valid20 hB)) (cals_cons (cal_ok Tryd.func22 (by kernel_rfl) rfl (valid22 hB)) (cals_cons (cal_ok Tryd.func23 (by kernel_rfl) rfl (valid23 hB)) (cals_cons (cal_ok Tryd.func24 (by kernel_rfl) rfl (valid24 hB)) (cals_cons (cal_ok Tryd.func28 (by kernel_rfl) rfl (valid28 hB)) (cals_cons (cal_ok Tryd.func45 (by kernel_rfl) rfl (valid45 hB)) (cals_nil))))))))))))))), by kernel_rfl⟩
def cWorks : Con := fun l os => match l, os with
  | [], [] => some (True, [.z .bool true], [])
  | _, _ => none

theorem valid8 {B : Base} (hB : Tabs B) : Valid B Tryd.prog 8 cWorks := by
  refine valid_of_J (T := tab8 B) (good8 hB).tab Tryd.func8 rfl rfl rfl ?_
  intro args os C rs os' hc hC
  unfold cWorks at hc
  split at hc
  case h_2 => cases hc
  cases hc
  refine ⟨by simp only [List.length_cons, List.length_nil, tab8]; omega, rfl, ?_⟩
  intro X hP hT hr
  have hG : MGood X.P X.T := by rw [hP, hT]; exact good8 hB
  simp only [Tryd.f8, argEnv, ioList, ioB]
  refine r_seq ?_
  refine r_region hG (by simp only [hT, tab8, cIntT, cDivT, cCmpT, cCheck, cIs, cAddT, cIsF, cSubT, cMulT, cGcdT, cPow, cFails, cFailsF, cDivides, mx0, mx1, mx2, mx3, mx4, mx5, effOp, endCall, callOp, appendOp, sliceLV, Ty.fieldTy, Ty.fieldOf, Nat.reduceLT, Nat.reduceEqDiff, Nat.reduceAdd, Nat.reduceMul, Nat.reduceSub, Nat.reduceLeDiff, Nat.reduceBEq, Nat.reduceBNe, reduceIte, reduceDIte, reduceCtorEq]; rfl) ?_ ?_ -- R0
  · trivial
  refine k_seq ?_
  refine r_seq ?_
  refine r_region hG (by simp only [hT, tab8, cIntT, cDivT, cCmpT, cCheck, cIs, cAddT, cIsF, cSubT, cMulT, cGcdT, cPow, cFails, cFailsF, cDivides, mx0, mx1, mx2, mx3, mx4, mx5, effOp, endCall, callOp, appendOp, sliceLV, Ty.fieldTy, Ty.fieldOf, Nat.reduceLT, Nat.reduceEqDiff, Nat.reduceAdd, Nat.reduceMul, Nat.reduceSub, Nat.reduceLeDiff, Nat.reduceBEq, Nat.reduceBNe, reduceIte, reduceDIte, reduceCtorEq]; rfl) ?_ ?_ -- R1
  · try simp only [and_true, true_and]
    simp only [Short, List.length_cons, List.length_nil]; decide
  refine k_seq ?_
  refine r_seq ?_
  refine r_region hG (by simp only [hT, tab8, cIntT, cDivT, cCmpT, cCheck, cIs, cAddT, cIsF, cSubT, cMulT, cGcdT, cPow, cFails, cFailsF, cDivides, mx0, mx1, mx2, mx3, mx4, mx5, effOp, endCall, callOp, appendOp, sliceLV, Ty.fieldTy, Ty.fieldOf, Nat.reduceLT, Nat.reduceEqDiff, Nat.reduceAdd, Nat.reduceMul, Nat.reduceSub, Nat.reduceLeDiff, Nat.reduceBEq, Nat.reduceBNe, reduceIte, reduceDIte, reduceCtorEq]; rfl) ?_ ?_ -- R2
  · try simp only [and_true, true_and]
    simp only [Short, List.length_cons, List.length_nil]; decide
  refine k_seq ?_
  refine r_seq ?_
  refine r_region hG (by simp only [hT, tab8, cIntT, cDivT, cCmpT, cCheck, cIs, cAddT, cIsF, cSubT, cMulT, cGcdT, cPow, cFails, cFailsF, cDivides, mx0, mx1, mx2, mx3, mx4, mx5, effOp, endCall, callOp, appendOp, sliceLV, Ty.fieldTy, Ty.fieldOf, Nat.reduceLT, Nat.reduceEqDiff, Nat.reduceAdd, Nat.reduceMul, Nat.reduceSub, Nat.reduceLeDiff, Nat.reduceBEq, Nat.reduceBNe, reduceIte, reduceDIte, reduceCtorEq]; rfl) ?_ ?_ -- R3
  · try simp only [and_true, true_and]
    simp only [Short, List.length_cons, List.length_nil]; decide
  refine k_seq ?_
  refine r_seq ?_
  refine r_region hG (by simp only [hT, tab8, cIntT, cDivT, cCmpT, cCheck, cIs, cAddT, cIsF, cSubT, cMulT, cGcdT, cPow, cFails, cFailsF, cDivides, mx0, mx1, mx2, mx3, mx4, mx5, effOp, endCall, callOp, appendOp, sliceLV, Ty.fieldTy, Ty.fieldOf, Nat.reduceLT, Nat.reduceEqDiff, Nat.reduceAdd, Nat.reduceMul, Nat.reduceSub, Nat.reduceLeDiff, Nat.reduceBEq, Nat.reduceBNe, reduceIte, reduceDIte, reduceCtorEq]; rfl) ?_ ?_ -- R4
  · try simp only [and_true, true_and]
    simp only [Short, List.length_cons, List.length_nil]; decide
  refine k_seq ?_
  refine r_seq ?_
  refine r_seq ?_
  refine r_region hG (by simp only [hT, tab8, cIntT, cDivT, cCmpT, cCheck, cIs, cAddT, cIsF, cSubT, cMulT, cGcdT, cPow, cFails, cFailsF, cDivides, mx0, mx1, mx2, mx3, mx4, mx5, effOp, endCall, callOp, appendOp, sliceLV, Ty.fieldTy, Ty.fieldOf, Nat.reduceLT, Nat.reduceEqDiff, Nat.reduceAdd, Nat.reduceMul, Nat.reduceSub, Nat.reduceLeDiff, Nat.reduceBEq, Nat.reduceBNe, reduceIte, reduceDIte, reduceCtorEq]; rfl) ?_ ?_ -- R5
  · trivial
  refine k_seq ?_
  refine j_block ?_
  refine j_loop (fun (z : Nat) => (⟨[(1, .l (.z (.int .i64) (intV ([57, 50, 50, 51, 51, 55, 50, 48, 51, 54, 56, 53, 52, 55, 55, 53, 56, 48, 55] : List UInt8)))), (2, .l (.z (.int .i64) (intE ([57, 50, 50, 51, 51, 55, 50, 48, 51, 54, 56, 53, 52, 55, 55, 53, 56, 48, 55] : List UInt8)))), (4, .l (.z (.int .i64) (intE ([57, 50, 50, 51, 51, 55, 50, 48, 51, 54, 56, 53, 52, 55, 55, 53, 56, 48, 56] : List UInt8)))), (7, .l (.z (.int .i64) (divVE [49] [48]))), (8, .l (.z (.int .i64) (cmpV [45, 53] [51]))), (9, .l (.z (.int .i64) (chkAll [[45, 53], [51]]))), (30, .l (.z (.arr 5 .str) badTexts)), (31, .l (.z (.int .i64) (z : Int)))], []⟩ : AState)) (fun z => z ≤ 5) (fun z => 5 - z) 0 ?_ ?_ ?_
  · simp only [ml0, ml1, Nat.reduceLT, Nat.reduceEqDiff, Nat.reduceAdd, Nat.reduceMul, Nat.reduceSub, Nat.reduceLeDiff, Nat.reduceBEq, Nat.reduceBNe, reduceIte, reduceDIte, reduceCtorEq]
    exact ⟨rfl, rfl⟩
  · omega
  · rintro k hk
    try dsimp only at hk
    refine r_seq ?_
    refine r_region hG (by simp only [hT, tab8, cIntT, cDivT, cCmpT, cCheck, cIs, cAddT, cIsF, cSubT, cMulT, cGcdT, cPow, cFails, cFailsF, cDivides, mx0, mx1, mx2, mx3, mx4, mx5, effOp, endCall, callOp, appendOp, sliceLV, Ty.fieldTy, Ty.fieldOf, Nat.reduceLT, Nat.reduceEqDiff, Nat.reduceAdd, Nat.reduceMul, Nat.reduceSub, Nat.reduceLeDiff, Nat.reduceBEq, Nat.reduceBNe, reduceIte, reduceDIte, reduceCtorEq]; rfl) ?_ ?_ -- R6
    · trivial
    refine k_seq ?_
    refine r_seq ?_
    refine r_cond (by simp only [hT, tab8, mx0, mx1, mx2, mx3, mx4, mx5, effOp, endCall, callOp, appendOp, sliceLV, Ty.fieldTy, Ty.fieldOf, Nat.reduceLT, Nat.reduceEqDiff, Nat.reduceAdd, Nat.reduceMul, Nat.reduceSub, Nat.reduceLeDiff, Nat.reduceBEq, Nat.reduceBNe, reduceIte, reduceDIte, reduceCtorEq]; rfl) ?_ ?_
    · intro hb0
      try simp only [decide_eq_true_eq, decide_eq_false_iff_not, beq_iff_eq, bne_iff_ne, Bool.not_eq_true', Bool.and_eq_true] at hb0
      refine r_skip ?_
      refine k_seq ?_
      refine r_seq ?_
      refine j_block ?_
      refine r_seq ?_
      refine r_region hG (by simp only [hT, tab8, cIntT, cDivT, cCmpT, cCheck, cIs, cAddT, cIsF, cSubT, cMulT, cGcdT, cPow, cFails, cFailsF, cDivides, mx0, mx1, mx2, mx3, mx4, mx5, effOp, endCall, callOp, appendOp, sliceLV, Ty.fieldTy, Ty.fieldOf, Nat.reduceLT, Nat.reduceEqDiff, Nat.reduceAdd, Nat.reduceMul, Nat.reduceSub, Nat.reduceLeDiff, Nat.reduceBEq, Nat.reduceBNe, reduceIte, reduceDIte, reduceCtorEq]; rfl) ?_ ?_ -- R7
      · try simp only [and_true, true_and]
        exact ⟨by omega, by show (k : Int) < 5; omega⟩
      refine k_seq ?_
      refine r_seq ?_
      refine r_region hG (by simp only [hT, tab8, cIntT, cDivT, cCmpT, cCheck, cIs, cAddT, cIsF, cSubT, cMulT, cGcdT, cPow, cFails, cFailsF, cDivides, mx0, mx1, mx2, mx3, mx4, mx5, effOp, endCall, callOp, appendOp, sliceLV, Ty.fieldTy, Ty.fieldOf, Nat.reduceLT, Nat.reduceEqDiff, Nat.reduceAdd, Nat.reduceMul, Nat.reduceSub, Nat.reduceLeDiff, Nat.reduceBEq, Nat.reduceBNe, reduceIte, reduceDIte, reduceCtorEq]; rfl) ?_ ?_ -- R8
      · try simp only [and_true, true_and]
        exact bad_short k
      refine k_seq ?_
      refine r_cond (by simp only [hT, tab8, mx0, mx1, mx2, mx3, mx4, mx5, effOp, endCall, callOp, appendOp, sliceLV, Ty.fieldTy, Ty.fieldOf, Nat.reduceLT, Nat.reduceEqDiff, Nat.reduceAdd, Nat.reduceMul, Nat.reduceSub, Nat.reduceLeDiff, Nat.reduceBEq, Nat.reduceBNe, reduceIte, reduceDIte, reduceCtorEq]; rfl) ?_ ?_
      · intro hb1
        simp only [decide_eq_true_eq, bne_iff_ne] at hb1
        exact absurd (bad_chk (by omega)) hb1
      · intro hb1
        try simp only [decide_eq_true_eq, decide_eq_false_iff_not, beq_eq_false_iff_ne, bne_eq_false_iff_eq, Bool.not_eq_false', Bool.and_eq_false_imp] at hb1
        refine r_skip ?_
        refine k_block ?_
        refine k_seq ?_
        refine r_region hG (by simp only [hT, tab8, cIntT, cDivT, cCmpT, cCheck, cIs, cAddT, cIsF, cSubT, cMulT, cGcdT, cPow, cFails, cFailsF, cDivides, mx0, mx1, mx2, mx3, mx4, mx5, effOp, endCall, callOp, appendOp, sliceLV, Ty.fieldTy, Ty.fieldOf, Nat.reduceLT, Nat.reduceEqDiff, Nat.reduceAdd, Nat.reduceMul, Nat.reduceSub, Nat.reduceLeDiff, Nat.reduceBEq, Nat.reduceBNe, reduceIte, reduceDIte, reduceCtorEq]; rfl) ?_ ?_ -- R10
        · trivial
        show ∃ z, _
        simp only [ml0, ml1, Nat.reduceLT, Nat.reduceEqDiff, Nat.reduceAdd, Nat.reduceMul, Nat.reduceSub, Nat.reduceLeDiff, Nat.reduceBEq, Nat.reduceBNe, reduceIte, reduceDIte, reduceCtorEq]
        exact ⟨k + 1, by rw [wi (by omega) (by omega)]; simp, by omega, by omega⟩
    · intro hb0
      try simp only [decide_eq_true_eq, decide_eq_false_iff_not, beq_eq_false_iff_ne, bne_eq_false_iff_eq, Bool.not_eq_false', Bool.and_eq_false_imp] at hb0
      refine r_exit ?_
      refine k_seq_exit ?_
      refine k_round_exit ?_
      refine k_block_exit ?_
      refine k_seq ?_
      refine r_cut (fun (z : Unit) => (⟨[(1, .l (.z (.int .i64) (intV ([57, 50, 50, 51, 51, 55, 50, 48, 51, 54, 56, 53, 52, 55, 55, 53, 56, 48, 55] : List UInt8)))), (2, .l (.z (.int .i64) (intE ([57, 50, 50, 51, 51, 55, 50, 48, 51, 54, 56, 53, 52, 55, 55, 53, 56, 48, 55] : List UInt8)))), (4, .l (.z (.int .i64) (intE ([57, 50, 50, 51, 51, 55, 50, 48, 51, 54, 56, 53, 52, 55, 55, 53, 56, 48, 56] : List UInt8)))), (7, .l (.z (.int .i64) (divVE [49] [48]))), (8, .l (.z (.int .i64) (cmpV [45, 53] [51]))), (9, .l (.z (.int .i64) (chkAll [[45, 53], [51]]))), (12, .l (.z .bool true))], []⟩ : AState)) (fun z => True) ?_ ?_
      · refine r_region hG (by simp only [hT, tab8, cIntT, cDivT, cCmpT, cCheck, cIs, cAddT, cIsF, cSubT, cMulT, cGcdT, cPow, cFails, cFailsF, cDivides, mx0, mx1, mx2, mx3, mx4, mx5, effOp, endCall, callOp, appendOp, sliceLV, Ty.fieldTy, Ty.fieldOf, Nat.reduceLT, Nat.reduceEqDiff, Nat.reduceAdd, Nat.reduceMul, Nat.reduceSub, Nat.reduceLeDiff, Nat.reduceBEq, Nat.reduceBNe, reduceIte, reduceDIte, reduceCtorEq]; rfl) ?_ ?_ -- R11
        · try simp only [and_true, true_and]
          simp [wk1.1, wk1.2, wk2.1, wk2.2, wk3.1, wk3.2, wk4.1, wk4.2, wk5.1, wk5.2, wk6.1, wk6.2, wk7.1, wk7.2, wk8.1, wk8.2, wk9.1, wk9.2, wk10.1, wk10.2, wk11.1, wk11.2.1, wk11.2.2, wk12.1, wk12.2.1, wk12.2.2, wk13.1, wk13.2.1, wk13.2.2, wk14.1, wk14.2.1, wk14.2.2, wk15.1, wk15.2.1, wk15.2.2, wk16.1, wk16.2.1, wk16.2.2, Short]
        show ∃ z, _
        simp only [ml0, ml1, Nat.reduceLT, Nat.reduceEqDiff, Nat.reduceAdd, Nat.reduceMul, Nat.reduceSub, Nat.reduceLeDiff, Nat.reduceBEq, Nat.reduceBNe, reduceIte, reduceDIte, reduceCtorEq]
        simp [wk1.1, wk1.2, wk2.1, wk2.2, wk3.1, wk3.2, wk4.1, wk4.2, wk5.1, wk5.2, wk6.1, wk6.2, wk7.1, wk7.2, wk8.1, wk8.2, wk9.1, wk9.2, wk10.1, wk10.2, wk11.1, wk11.2.1, wk11.2.2, wk12.1, wk12.2.1, wk12.2.2, wk13.1, wk13.2.1, wk13.2.2, wk14.1, wk14.2.1, wk14.2.2, wk15.1, wk15.2.1, wk15.2.2, wk16.1, wk16.2.1, wk16.2.2]
      rintro ⟨⟩ hu
      try dsimp only at hu
      refine r_cut (fun (z : Unit) => (⟨[(1, .l (.z (.int .i64) (intV ([57, 50, 50, 51, 51, 55, 50, 48, 51, 54, 56, 53, 52, 55, 55, 53, 56, 48, 55] : List UInt8)))), (2, .l (.z (.int .i64) (intE ([57, 50, 50, 51, 51, 55, 50, 48, 51, 54, 56, 53, 52, 55, 55, 53, 56, 48, 55] : List UInt8)))), (4, .l (.z (.int .i64) (intE ([57, 50, 50, 51, 51, 55, 50, 48, 51, 54, 56, 53, 52, 55, 55, 53, 56, 48, 56] : List UInt8)))), (7, .l (.z (.int .i64) (divVE [49] [48]))), (8, .l (.z (.int .i64) (cmpV [45, 53] [51]))), (9, .l (.z (.int .i64) (chkAll [[45, 53], [51]]))), (12, .l (.z .bool true))], []⟩ : AState)) (fun z => True) ?_ ?_
      · refine r_region hG (by simp only [hT, tab8, cIntT, cDivT, cCmpT, cCheck, cIs, cAddT, cIsF, cSubT, cMulT, cGcdT, cPow, cFails, cFailsF, cDivides, mx0, mx1, mx2, mx3, mx4, mx5, effOp, endCall, callOp, appendOp, sliceLV, Ty.fieldTy, Ty.fieldOf, Nat.reduceLT, Nat.reduceEqDiff, Nat.reduceAdd, Nat.reduceMul, Nat.reduceSub, Nat.reduceLeDiff, Nat.reduceBEq, Nat.reduceBNe, reduceIte, reduceDIte, reduceCtorEq]; rfl) ?_ ?_ -- R12
        · try simp only [and_true, true_and]
          simp [wk1.1, wk1.2, wk2.1, wk2.2, wk3.1, wk3.2, wk4.1, wk4.2, wk5.1, wk5.2, wk6.1, wk6.2, wk7.1, wk7.2, wk8.1, wk8.2, wk9.1, wk9.2, wk10.1, wk10.2, wk11.1, wk11.2.1, wk11.2.2, wk12.1, wk12.2.1, wk12.2.2, wk13.1, wk13.2.1, wk13.2.2, wk14.1, wk14.2.1, wk14.2.2, wk15.1, wk15.2.1, wk15.2.2, wk16.1, wk16.2.1, wk16.2.2, Short, I64]
        show ∃ z, _
        simp only [ml0, ml1, Nat.reduceLT, Nat.reduceEqDiff, Nat.reduceAdd, Nat.reduceMul, Nat.reduceSub, Nat.reduceLeDiff, Nat.reduceBEq, Nat.reduceBNe, reduceIte, reduceDIte, reduceCtorEq]
        simp [wk1.1, wk1.2, wk2.1, wk2.2, wk3.1, wk3.2, wk4.1, wk4.2, wk5.1, wk5.2, wk6.1, wk6.2, wk7.1, wk7.2, wk8.1, wk8.2, wk9.1, wk9.2, wk10.1, wk10.2, wk11.1, wk11.2.1, wk11.2.2, wk12.1, wk12.2.1, wk12.2.2, wk13.1, wk13.2.1, wk13.2.2, wk14.1, wk14.2.1, wk14.2.2, wk15.1, wk15.2.1, wk15.2.2, wk16.1, wk16.2.1, wk16.2.2]
      rintro ⟨⟩ hu
      try dsimp only at hu
      refine r_seq ?_
      refine r_region hG (by simp only [hT, tab8, cIntT, cDivT, cCmpT, cCheck, cIs, cAddT, cIsF, cSubT, cMulT, cGcdT, cPow, cFails, cFailsF, cDivides, mx0, mx1, mx2, mx3, mx4, mx5, effOp, endCall, callOp, appendOp, sliceLV, Ty.fieldTy, Ty.fieldOf, Nat.reduceLT, Nat.reduceEqDiff, Nat.reduceAdd, Nat.reduceMul, Nat.reduceSub, Nat.reduceLeDiff, Nat.reduceBEq, Nat.reduceBNe, reduceIte, reduceDIte, reduceCtorEq]; rfl) ?_ ?_ -- R13
      · try simp only [and_true, true_and]
        simp [wk1.1, wk1.2, wk2.1, wk2.2, wk3.1, wk3.2, wk4.1, wk4.2, wk5.1, wk5.2, wk6.1, wk6.2, wk7.1, wk7.2, wk8.1, wk8.2, wk9.1, wk9.2, wk10.1, wk10.2, wk11.1, wk11.2.1, wk11.2.2, wk12.1, wk12.2.1, wk12.2.2, wk13.1, wk13.2.1, wk13.2.2, wk14.1, wk14.2.1, wk14.2.2, wk15.1, wk15.2.1, wk15.2.2, wk16.1, wk16.2.1, wk16.2.2, Short]
      refine k_seq ?_
      refine r_ret ?_
      refine ⟨[], ?_⟩
      simp only [hT, tab8, mr0, mr1, mr2, Nat.reduceLT, Nat.reduceEqDiff, Nat.reduceAdd, Nat.reduceMul, Nat.reduceSub, Nat.reduceLeDiff, Nat.reduceBEq, Nat.reduceBNe, reduceIte, reduceDIte, reduceCtorEq]
      simp [wk1.1, wk1.2, wk2.1, wk2.2, wk3.1, wk3.2, wk4.1, wk4.2, wk5.1, wk5.2, wk6.1, wk6.2, wk7.1, wk7.2, wk8.1, wk8.2, wk9.1, wk9.2, wk10.1, wk10.2, wk11.1, wk11.2.1, wk11.2.2, wk12.1, wk12.2.1, wk12.2.2, wk13.1, wk13.2.1, wk13.2.2, wk14.1, wk14.2.1, wk14.2.2, wk15.1, wk15.2.1, wk15.2.2, wk16.1, wk16.2.1, wk16.2.2]

end Go.Proofs.YtkgbdpmhdplddaaDoor
end
