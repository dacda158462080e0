/- Merged by a program out of several texts. -/
import Derived.Test.YtkgbdpmhdplddaaGreatDoorQ3
import Derived.Test.YtkgbdpmhdplddaaGreatDoorProg
import Derived.Test.YtkgbdpmhdplddaaGreatDoorQ4
set_option linter.all false
set_option linter.unusedSimpArgs false
set_option linter.unusedVariables false

section
/- The functions of the package exact, one after the other: each meets its contract. -/
set_option linter.unusedSimpArgs false
set_option linter.unusedVariables false
set_option maxRecDepth 100000
namespace Go.Proofs.YtkgbdpmhdplddaaGreatDoor
open Go Go.Cm Go.Proofs

def tab55 (B : Base) : Tab := { types := [(3, (.int .i64)), (4, .bool), (61, (.slice (.int .u32))), (63, (.st (.pair .bool (.slice (.int .u32))))), (89, (.int .u32)), (91, (.int .u64))], elems := [(61, 89)], cons := [(66, cWhole), (76, cCompare), (83, cShort), (84, cScaled), (85, cLose), (86, cGain)], hint := [52, 144, 152], N := 172, io := [(85, [0]), (86, [0])], base := B }
theorem good55 {B : Base} (hB : Tabs B) : MGood Tryz.prog (tab55 B) := ⟨⟨types_cons ty3 (types_cons ty4 (types_cons ty61 (types_cons ty63 (types_cons ty89 (types_cons ty91 (types_nil)))))), elems_cons (by kernel_rfl) (elems_nil), by simp only [tab55, ioB]; omega⟩, cons_ok (cals_cons (cal_ok Tryz.func66 (by kernel_rfl) rfl (valid49 hB)) (cals_cons (cal_ok Tryz.func76 (by kernel_rfl) rfl (valid51 hB)) (cals_cons (cal_ok Tryz.func83 (by kernel_rfl) rfl (valid68 hB)) (cals_cons (cal_ok Tryz.func84 (by kernel_rfl) rfl (valid69 hB)) (cals_cons (cal_ok Tryz.func85 (by kernel_rfl) rfl (valid70 hB)) (cals_cons (cal_ok Tryz.func86 (by kernel_rfl) rfl (valid71 hB)) (cals_nil))))))), by kernel_rfl⟩
def cDivided : Con := fun l os => match l, os with
  | [.z (.slice (.int .u32)) m, .z (.slice (.int .u32)) o], [] => some (Cano m ∧ Cano o ∧ o ≠ [] ∧ m.length + o.length + 1 < CAP, [.z (.slice (.int .u32)) (divQ m o), .z (.slice (.int .u32)) (divR m o)], [])
  | _, _ => none

set_option maxHeartbeats 1000000 in
theorem valid55 {B : Base} (hB : Tabs B) : Valid B Tryz.prog 67 cDivided := by
  refine valid_of_J (T := tab55 B) (good55 hB).tab Tryz.func67 rfl rfl rfl ?_
  intro args os C rs os' hc hC
  unfold cDivided at hc
  split at hc
  case h_2 => cases hc
  rename_i m o
  cases hc
  refine ⟨by simp only [List.length_cons, List.length_nil, tab55]; omega, rfl, ?_⟩
  intro X hP hT hr
  have hG : MGood X.P X.T := by rw [hP, hT]; exact good55 hB
  unfold tab55 at hT
  have hX := And.intro (@cCompare.eq_1) <| And.intro (@cShort.eq_1) <| And.intro (@cScaled.eq_1) <| And.intro (@cLose.eq_1) <| And.intro (@cGain.eq_1) <| @cWhole.eq_1
  simp only [Tryz.f67, argEnv, ioList, ioB]
  refine r_seq ?_
  show J X _ _ _
  refine r_region hG (by simp only [hT, tab55, lendArg.eq_def, lenLV.eq_def, cCompare, cShort, cScaled, cLose, cGain, cWhole, mx0, mx1, mx2, mx3, mx4, mx5, effOp, endCall, callOp, appendOp, sliceLV, Ty.fieldTy, Ty.fieldOf, Nat.reduceLT, Nat.reduceEqDiff, Nat.reduceAdd, Nat.reduceMul, Nat.reduceSub, Nat.reduceLeDiff, Nat.reduceBEq, Nat.reduceBNe, reduceIte, reduceDIte, reduceCtorEq]; rfl) ?_ ?_ -- R0
  · trivial
  refine k_seq ?_
  refine r_seq ?_
  refine r_seq ?_
  show J X _ _ _
  refine r_region hG (by simp only [hT, tab55, lendArg.eq_def, lenLV.eq_def, cCompare, cShort, cScaled, cLose, cGain, cWhole, mx0, mx1, mx2, mx3, mx4, mx5, effOp, endCall, callOp, appendOp, sliceLV, Ty.fieldTy, Ty.fieldOf, Nat.reduceLT, Nat.reduceEqDiff, Nat.reduceAdd, Nat.reduceMul, Nat.reduceSub, Nat.reduceLeDiff, Nat.reduceBEq, Nat.reduceBNe, reduceIte, reduceDIte, reduceCtorEq]; rfl) ?_ ?_ -- R1
  · try simp only [and_true, true_and]
    exact ⟨hC.1, hC.2.1, Nat.lt_of_le_of_lt (Nat.le_succ _) hC.2.2.2⟩
  refine k_seq ?_
  refine r_cond (by simp only [hT, tab55, lendArg.eq_def, lenLV.eq_def, mx0, mx1, mx2, mx3, mx4, mx5, effOp, endCall, callOp, appendOp, sliceLV, Ty.fieldTy, Ty.fieldOf, Nat.reduceLT, Nat.reduceEqDiff, Nat.reduceAdd, Nat.reduceMul, Nat.reduceSub, Nat.reduceLeDiff, Nat.reduceBEq, Nat.reduceBNe, reduceIte, reduceDIte, reduceCtorEq]; rfl) ?_ ?_
  · intro hb0
    try simp only [decide_eq_true_eq, decide_eq_false_iff_not, beq_iff_eq, bne_iff_ne, Bool.not_eq_true', Bool.and_eq_true] at hb0
    refine r_seq ?_
    show J X _ _ _
    refine r_region hG (by simp only [hT, tab55, lendArg.eq_def, lenLV.eq_def, cCompare, cShort, cScaled, cLose, cGain, cWhole, mx0, mx1, mx2, mx3, mx4, mx5, effOp, endCall, callOp, appendOp, sliceLV, Ty.fieldTy, Ty.fieldOf, Nat.reduceLT, Nat.reduceEqDiff, Nat.reduceAdd, Nat.reduceMul, Nat.reduceSub, Nat.reduceLeDiff, Nat.reduceBEq, Nat.reduceBNe, reduceIte, reduceDIte, reduceCtorEq]; rfl) ?_ ?_ -- R2
    · trivial
    refine k_seq ?_
    refine r_ret ?_
    refine k_seq_ret ?_
    refine ⟨[62], ?_⟩
    simp only [hT, tab55, mr0, mr1, mr2, Nat.reduceLT, Nat.reduceEqDiff, Nat.reduceAdd, Nat.reduceMul, Nat.reduceSub, Nat.reduceLeDiff, Nat.reduceBEq, Nat.reduceBNe, reduceIte, reduceDIte, reduceCtorEq]
    exact div_less hb0
  · intro hb0
    try simp only [decide_eq_true_eq, decide_eq_false_iff_not, beq_eq_false_iff_ne, bne_eq_false_iff_eq, Bool.not_eq_false', Bool.and_eq_false_imp] at hb0
    refine r_skip ?_
    refine k_seq ?_
    refine r_seq ?_
    refine r_seq ?_
    show J X _ _ _
    refine r_region hG (by simp only [hT, tab55, lendArg.eq_def, lenLV.eq_def, cCompare, cShort, cScaled, cLose, cGain, cWhole, mx0, mx1, mx2, mx3, mx4, mx5, effOp, endCall, callOp, appendOp, sliceLV, Ty.fieldTy, Ty.fieldOf, Nat.reduceLT, Nat.reduceEqDiff, Nat.reduceAdd, Nat.reduceMul, Nat.reduceSub, Nat.reduceLeDiff, Nat.reduceBEq, Nat.reduceBNe, reduceIte, reduceDIte, reduceCtorEq]; rfl) ?_ ?_ -- R3
    · trivial
    refine k_seq ?_
    refine r_cond (by simp only [hT, tab55, lendArg.eq_def, lenLV.eq_def, mx0, mx1, mx2, mx3, mx4, mx5, effOp, endCall, callOp, appendOp, sliceLV, Ty.fieldTy, Ty.fieldOf, Nat.reduceLT, Nat.reduceEqDiff, Nat.reduceAdd, Nat.reduceMul, Nat.reduceSub, Nat.reduceLeDiff, Nat.reduceBEq, Nat.reduceBNe, reduceIte, reduceDIte, reduceCtorEq]; rfl) ?_ ?_
    · intro hb1
      try simp only [decide_eq_true_eq, decide_eq_false_iff_not, beq_iff_eq, bne_iff_ne, Bool.not_eq_true', Bool.and_eq_true] at hb1
      refine r_seq ?_
      show J X _ _ _
      refine r_region hG (by simp only [hT, tab55, lendArg.eq_def, lenLV.eq_def, cCompare, cShort, cScaled, cLose, cGain, cWhole, mx0, mx1, mx2, mx3, mx4, mx5, effOp, endCall, callOp, appendOp, sliceLV, Ty.fieldTy, Ty.fieldOf, Nat.reduceLT, Nat.reduceEqDiff, Nat.reduceAdd, Nat.reduceMul, Nat.reduceSub, Nat.reduceLeDiff, Nat.reduceBEq, Nat.reduceBNe, reduceIte, reduceDIte, reduceCtorEq]; rfl) ?_ ?_ -- R4
      · try simp only [and_true, true_and]
        exact ⟨⟨by omega, by omega⟩, hC.1.1, (div_one hC.2.1 hb0 hb1).1, by have := hC.2.2.2; omega⟩
      refine k_seq ?_
      refine r_seq ?_
      show J X _ _ _
      refine r_region hG (by simp only [hT, tab55, lendArg.eq_def, lenLV.eq_def, cCompare, cShort, cScaled, cLose, cGain, cWhole, mx0, mx1, mx2, mx3, mx4, mx5, effOp, endCall, callOp, appendOp, sliceLV, Ty.fieldTy, Ty.fieldOf, Nat.reduceLT, Nat.reduceEqDiff, Nat.reduceAdd, Nat.reduceMul, Nat.reduceSub, Nat.reduceLeDiff, Nat.reduceBEq, Nat.reduceBNe, reduceIte, reduceDIte, reduceCtorEq]; rfl) ?_ ?_ -- R5
      · trivial
      refine k_seq ?_
      refine r_ret ?_
      refine k_seq_ret ?_
      refine ⟨[62], ?_⟩
      simp only [hT, tab55, mr0, mr1, mr2, Nat.reduceLT, Nat.reduceEqDiff, Nat.reduceAdd, Nat.reduceMul, Nat.reduceSub, Nat.reduceLeDiff, Nat.reduceBEq, Nat.reduceBNe, reduceIte, reduceDIte, reduceCtorEq]
      exact (div_one hC.2.1 hb0 hb1).2
    · intro hb1
      simp only [beq_eq_false_iff_ne, ne_eq] at hb1
      obtain ⟨p, hp⟩ : ∃ p, List.length o = p + 2 := two_or_more hC.2.2.1 hb1
      obtain ⟨D, f⟩ : ∃ D : List Int, DivFix m o D p := ⟨_, DivFix.mk' hC.1 hC.2.1 hp (cmp_ge hb0) hC.2.2.2⟩
      have hDl := f.hDl
      have hcc := f.hc
      have hlm := f.hlm
      refine r_skip ?_
      refine k_seq ?_
      refine r_cut (fun (z : Int) => (⟨[(0, .l (.z (.slice (.int .u32)) m)), (1, .l (.z (.slice (.int .u32)) o)), (8, .l (.z (.int .u32) z))], []⟩ : AState)) (fun z => z = scaleOf o) ?_ ?_
      · show J X _ _ _
        refine r_region hG (by simp only [hT, tab55, lendArg.eq_def, lenLV.eq_def, cCompare, cShort, cScaled, cLose, cGain, cWhole, mx0, mx1, mx2, mx3, mx4, mx5, effOp, endCall, callOp, appendOp, sliceLV, Ty.fieldTy, Ty.fieldOf, Nat.reduceLT, Nat.reduceEqDiff, Nat.reduceAdd, Nat.reduceMul, Nat.reduceSub, Nat.reduceLeDiff, Nat.reduceBEq, Nat.reduceBNe, reduceIte, reduceDIte, reduceCtorEq]; rfl) ?_ ?_ -- R6
        · try simp only [and_true, true_and]
          have h := scale_code f.ho f.hp (by omega)
          exact ⟨h.1, h.2.1⟩
        show ∃ z, _
        simp only [ml0, ml1, Nat.reduceLT, Nat.reduceEqDiff, Nat.reduceAdd, Nat.reduceMul, Nat.reduceSub, Nat.reduceLeDiff, Nat.reduceBEq, Nat.reduceBNe, reduceIte, reduceDIte, reduceCtorEq]
        exact (scale_code f.ho f.hp (by omega)).2.2
      rintro d hd
      try dsimp only at hd
      subst hd
      refine r_seq ?_
      show J X _ _ _
      refine r_draw hG (by simp only [hT, mt0, tab55, lendArg.eq_def, lenLV.eq_def, cCompare, cShort, cScaled, cLose, cGain, cWhole, mx0, mx1, mx2, mx3, mx4, mx5, effOp, endCall, callOp, appendOp, sliceLV, Ty.fieldTy, Ty.fieldOf, Nat.reduceLT, Nat.reduceEqDiff, Nat.reduceAdd, Nat.reduceMul, Nat.reduceSub, Nat.reduceLeDiff, Nat.reduceBEq, Nat.reduceBNe, reduceIte, reduceDIte, reduceCtorEq]; rfl) (by kernel_rfl) (by rfl) (by rfl) ?_ ?_ -- R7
      · try simp only [and_true, true_and]
        exact div_side7 f
      refine k_seq ?_
      refine r_seq ?_
      show J X _ _ _
      refine r_region hG (by simp only [hT, tab55, lendArg.eq_def, lenLV.eq_def, cCompare, cShort, cScaled, cLose, cGain, cWhole, mx0, mx1, mx2, mx3, mx4, mx5, effOp, endCall, callOp, appendOp, sliceLV, Ty.fieldTy, Ty.fieldOf, Nat.reduceLT, Nat.reduceEqDiff, Nat.reduceAdd, Nat.reduceMul, Nat.reduceSub, Nat.reduceLeDiff, Nat.reduceBEq, Nat.reduceBNe, reduceIte, reduceDIte, reduceCtorEq]; rfl) ?_ ?_ -- R8
      · trivial
      refine k_seq ?_
      refine r_seq ?_
      show J X _ _ _
      refine r_region hG (by simp only [hT, tab55, lendArg.eq_def, lenLV.eq_def, cCompare, cShort, cScaled, cLose, cGain, cWhole, mx0, mx1, mx2, mx3, mx4, mx5, effOp, endCall, callOp, appendOp, sliceLV, Ty.fieldTy, Ty.fieldOf, Nat.reduceLT, Nat.reduceEqDiff, Nat.reduceAdd, Nat.reduceMul, Nat.reduceSub, Nat.reduceLeDiff, Nat.reduceBEq, Nat.reduceBNe, reduceIte, reduceDIte, reduceCtorEq]; rfl) ?_ ?_ -- R9
      · try simp only [and_true, true_and]
        exact div_side9 f
      refine k_seq ?_
      refine r_seq ?_
      refine r_seq ?_
      show J X _ _ _
      refine r_region hG (by simp only [hT, tab55, lendArg.eq_def, lenLV.eq_def, cCompare, cShort, cScaled, cLose, cGain, cWhole, mx0, mx1, mx2, mx3, mx4, mx5, effOp, endCall, callOp, appendOp, sliceLV, Ty.fieldTy, Ty.fieldOf, Nat.reduceLT, Nat.reduceEqDiff, Nat.reduceAdd, Nat.reduceMul, Nat.reduceSub, Nat.reduceLeDiff, Nat.reduceBEq, Nat.reduceBNe, reduceIte, reduceDIte, reduceCtorEq]; rfl) ?_ ?_ -- R10
      · trivial
      refine k_seq ?_
      refine j_block ?_
      refine j_loop (fun (z : Nat × List Int × List Int) => (⟨[(8, .l (.z (.int .u32) (scaleOf o))), (9, .l (.ownS 1392)), (10, .l (.z (.slice (.int .u32)) D)), (11, .l (.z (.int .i64) (List.length o : Int))), (12, .l (.ownS 62)), (13, .l (.z (.int .i64) ((z.1 : Int) - 1)))], [(1392, .arr (.int .u32) 89 z.2.1), (62, .arr (.int .u32) 89 z.2.2)]⟩ : AState)) (fun z => IterPhi (valL m * scaleOf o) (valL D) (List.length m) (p + 2) z.1 z.2.1 z.2.2) (fun z => z.1) (List.length m + 1 - List.length o, padL (valL m * scaleOf o).toNat (List.length m + 1), List.replicate (List.length m + 1 - List.length o) 0) ?_ ?_ ?_
      · simp only [ml0, ml1, Nat.reduceLT, Nat.reduceEqDiff, Nat.reduceAdd, Nat.reduceMul, Nat.reduceSub, Nat.reduceLeDiff, Nat.reduceBEq, Nat.reduceBNe, reduceIte, reduceDIte, reduceCtorEq]
        exact div_le0 f
      · exact iter_start f
      · rintro ⟨k, T, Q⟩ hz
        try dsimp only at hz
        have hz1 := hz.1
        have hz3 := hz.2.2.1
        have hz5 := hz.2.2.2.2.1
        refine r_seq ?_
        refine r_seq ?_
        show J X _ _ _
        refine r_region hG (by simp only [hT, tab55, lendArg.eq_def, lenLV.eq_def, cCompare, cShort, cScaled, cLose, cGain, cWhole, mx0, mx1, mx2, mx3, mx4, mx5, effOp, endCall, callOp, appendOp, sliceLV, Ty.fieldTy, Ty.fieldOf, Nat.reduceLT, Nat.reduceEqDiff, Nat.reduceAdd, Nat.reduceMul, Nat.reduceSub, Nat.reduceLeDiff, Nat.reduceBEq, Nat.reduceBNe, reduceIte, reduceDIte, reduceCtorEq]; rfl) ?_ ?_ -- R11
        · trivial
        refine k_seq ?_
        refine r_cond (by simp only [hT, tab55, lendArg.eq_def, lenLV.eq_def, mx0, mx1, mx2, mx3, mx4, mx5, effOp, endCall, callOp, appendOp, sliceLV, Ty.fieldTy, Ty.fieldOf, Nat.reduceLT, Nat.reduceEqDiff, Nat.reduceAdd, Nat.reduceMul, Nat.reduceSub, Nat.reduceLeDiff, Nat.reduceBEq, Nat.reduceBNe, reduceIte, reduceDIte, reduceCtorEq]; rfl) ?_ ?_
        · intro hb2
          try simp only [decide_eq_true_eq] at hb2
          obtain ⟨j, rfl⟩ : ∃ j, k = j + 1 := ⟨k - 1, by omega⟩
          have ej : (((j + 1 : Nat)) : Int) - 1 = (j : Int) := by omega
          rw [ej]
          have hw17 : (j : Int).toNat < List.length T := by omega
          have hw19 : ∀ v : Int, (j : Int).toNat < (List.take (j : Int).toNat T ++ put (List.drop (j : Int).toNat T) (List.length D + 1) v).length := fun v => by rw [win_len _ (by rw [hDl]; omega)]; exact hw17
          have ej0 : IntKind.i64.wrap ((j : Int) + (List.length o : Int)) = ((j + (p + 2) : Nat) : Int) := by rw [wi (by omega) (by omega)]; omega
          have ej1 : IntKind.i64.wrap (((j + (p + 2) : Nat) : Int) - 1) = ((j + (p + 1) : Nat) : Int) := by rw [wi (by omega) (by omega)]; omega
          have ej2 : IntKind.i64.wrap (((j + (p + 2) : Nat) : Int) - 2) = ((j + p : Nat) : Int) := by rw [wi (by omega) (by omega)]; omega
          have g := mk_guess (j := j) (p := p) hz.2.1 f.hL f.hDl f.hVp (by omega) hz.2.2.2.2.2.2
          have hD1 := (f.hL.getD (p + 1)).2
          have hTj : j + (p + 3) ≤ List.length T := by omega
          refine r_skip ?_
          refine k_seq ?_
          refine r_seq ?_
          refine j_block ?_
          refine r_cut (fun (z : Int) => (⟨[(8, .l (.z (.int .u32) (scaleOf o))), (9, .l (.ownS 1392)), (10, .l (.z (.slice (.int .u32)) D)), (11, .l (.z (.int .i64) (List.length o : Int))), (12, .l (.ownS 62)), (13, .l (.z (.int .i64) (j : Int))), (14, .l (.z (.int .u64) z))], [(1392, .arr (.int .u32) 89 T), (62, .arr (.int .u32) 89 Q)]⟩ : AState)) (fun z => z = T.getD (j + (p + 2)) 0 * LB + T.getD (j + (p + 1)) 0 ∧ z < LB * LB) ?_ ?_
          · show J X _ _ _
            refine r_draw hG (by simp only [hT, mt0, tab55, lendArg.eq_def, lenLV.eq_def, cCompare, cShort, cScaled, cLose, cGain, cWhole, mx0, mx1, mx2, mx3, mx4, mx5, effOp, endCall, callOp, appendOp, sliceLV, Ty.fieldTy, Ty.fieldOf, Nat.reduceLT, Nat.reduceEqDiff, Nat.reduceAdd, Nat.reduceMul, Nat.reduceSub, Nat.reduceLeDiff, Nat.reduceBEq, Nat.reduceBNe, reduceIte, reduceDIte, reduceCtorEq]; rfl) (by kernel_rfl) (by rfl) (by rfl) ?_ ?_ -- R13
            · try simp only [and_true, true_and]
              simp only [ej0, ej1, Int.toNat_natCast]
              exact ⟨⟨by omega, by omega⟩, by omega, ⟨by omega, by omega⟩, by omega⟩
            show ∃ z, _
            simp only [ml0, ml1, Nat.reduceLT, Nat.reduceEqDiff, Nat.reduceAdd, Nat.reduceMul, Nat.reduceSub, Nat.reduceLeDiff, Nat.reduceBEq, Nat.reduceBNe, reduceIte, reduceDIte, reduceCtorEq]
            simp only [f.en1, f.en2, ej0, ej1, ej2, Int.toNat_natCast, nth32]
            have := top_code (hz.2.1.getD (j + (p + 2))) (hz.2.1.getD (j + (p + 1)))
            rw [this.1]
            exact ⟨rfl, this.2.1⟩
          rintro top ht
          try dsimp only at ht
          have g2 := g
          rw [← ht.1] at g2
          have ht0 := g2.htop
          refine r_cut (fun (z : Int) => (⟨[(8, .l (.z (.int .u32) (scaleOf o))), (9, .l (.ownS 1392)), (10, .l (.z (.slice (.int .u32)) D)), (11, .l (.z (.int .i64) (List.length o : Int))), (12, .l (.ownS 62)), (13, .l (.z (.int .i64) (j : Int))), (14, .l (.z (.int .u64) top)), (15, .l (.z (.int .u64) z))], [(1392, .arr (.int .u32) 89 T), (62, .arr (.int .u32) 89 Q)]⟩ : AState)) (fun z => z = min (top / D.getD (p + 1) 0) 999999999) ?_ ?_
          · show J X _ _ _
            refine r_region hG (by simp only [hT, tab55, lendArg.eq_def, lenLV.eq_def, cCompare, cShort, cScaled, cLose, cGain, cWhole, mx0, mx1, mx2, mx3, mx4, mx5, effOp, endCall, callOp, appendOp, sliceLV, Ty.fieldTy, Ty.fieldOf, Nat.reduceLT, Nat.reduceEqDiff, Nat.reduceAdd, Nat.reduceMul, Nat.reduceSub, Nat.reduceLeDiff, Nat.reduceBEq, Nat.reduceBNe, reduceIte, reduceDIte, reduceCtorEq]; rfl) ?_ ?_ -- R14
            · try simp only [and_true, true_and]
              simp only [f.en1, f.en2, ej0, ej1, ej2, Int.toNat_natCast, nth32]
              exact ⟨⟨by omega, by omega⟩, (quo_code ht0 ht.2 g.hD1 hD1).2⟩
            show ∃ z, _
            simp only [ml0, ml1, Nat.reduceLT, Nat.reduceEqDiff, Nat.reduceAdd, Nat.reduceMul, Nat.reduceSub, Nat.reduceLeDiff, Nat.reduceBEq, Nat.reduceBNe, reduceIte, reduceDIte, reduceCtorEq]
            simp only [f.en1, f.en2, ej0, ej1, ej2, Int.toNat_natCast, nth32]
            rw [(quo_code ht0 ht.2 g.hD1 hD1).1]
          rintro gs hg
          try dsimp only at hg
          refine r_seq ?_
          refine j_block ?_
          refine j_loop (fun (z : Int) => (⟨[(8, .l (.z (.int .u32) (scaleOf o))), (9, .l (.ownS 1392)), (10, .l (.z (.slice (.int .u32)) D)), (11, .l (.z (.int .i64) (List.length o : Int))), (12, .l (.ownS 62)), (13, .l (.z (.int .i64) (j : Int))), (14, .l (.z (.int .u64) top)), (15, .l (.z (.int .u64) z))], [(1392, .arr (.int .u32) 89 T), (62, .arr (.int .u32) 89 Q)]⟩ : AState)) (fun z => QPhi (valL ((T.drop j).take (p + 3))) (valL D) top (D.getD (p + 1) 0) z) (fun z => z.toNat) gs ?_ ?_ ?_
          · simp only [ml0, ml1, Nat.reduceLT, Nat.reduceEqDiff, Nat.reduceAdd, Nat.reduceMul, Nat.reduceSub, Nat.reduceLeDiff, Nat.reduceBEq, Nat.reduceBNe, reduceIte, reduceDIte, reduceCtorEq]
          · exact q_start g2 hg
          · rintro q hq
            try dsimp only at hq
            refine r_seq ?_
            refine r_seq ?_
            show J X _ _ _
            refine r_draw hG (by simp only [hT, mt0, tab55, lendArg.eq_def, lenLV.eq_def, cCompare, cShort, cScaled, cLose, cGain, cWhole, mx0, mx1, mx2, mx3, mx4, mx5, effOp, endCall, callOp, appendOp, sliceLV, Ty.fieldTy, Ty.fieldOf, Nat.reduceLT, Nat.reduceEqDiff, Nat.reduceAdd, Nat.reduceMul, Nat.reduceSub, Nat.reduceLeDiff, Nat.reduceBEq, Nat.reduceBNe, reduceIte, reduceDIte, reduceCtorEq]; rfl) (by kernel_rfl) (by rfl) (by rfl) ?_ ?_ -- R15
            · try simp only [and_true, true_and]
              simp only [f.en1, f.en2, ej0, ej1, ej2, Int.toNat_natCast, nth32]
              exact ⟨⟨by omega, by omega⟩, ⟨by omega, by omega⟩, ⟨by omega, by omega⟩, by omega, fun h => h, fun h => ⟨h, by omega, by omega⟩, fun h => h⟩
            refine k_seq ?_
            refine r_cond (by simp only [hT, tab55, lendArg.eq_def, lenLV.eq_def, mx0, mx1, mx2, mx3, mx4, mx5, effOp, endCall, callOp, appendOp, sliceLV, Ty.fieldTy, Ty.fieldOf, Nat.reduceLT, Nat.reduceEqDiff, Nat.reduceAdd, Nat.reduceMul, Nat.reduceSub, Nat.reduceLeDiff, Nat.reduceBEq, Nat.reduceBNe, reduceIte, reduceDIte, reduceCtorEq]; rfl) ?_ ?_
            · intro hb3
              try simp only [decide_eq_true_eq, decide_eq_false_iff_not, beq_iff_eq, bne_iff_ne, Bool.not_eq_true', Bool.and_eq_true] at hb3
              refine r_skip ?_
              refine k_seq ?_
              refine j_block ?_
              show J X _ _ _
              refine r_region hG (by simp only [hT, tab55, lendArg.eq_def, lenLV.eq_def, cCompare, cShort, cScaled, cLose, cGain, cWhole, mx0, mx1, mx2, mx3, mx4, mx5, effOp, endCall, callOp, appendOp, sliceLV, Ty.fieldTy, Ty.fieldOf, Nat.reduceLT, Nat.reduceEqDiff, Nat.reduceAdd, Nat.reduceMul, Nat.reduceSub, Nat.reduceLeDiff, Nat.reduceBEq, Nat.reduceBNe, reduceIte, reduceDIte, reduceCtorEq]; rfl) ?_ ?_ -- R16
              · trivial
              refine k_block ?_
              show ∃ z, _
              simp only [ml0, ml1, Nat.reduceLT, Nat.reduceEqDiff, Nat.reduceAdd, Nat.reduceMul, Nat.reduceSub, Nat.reduceLeDiff, Nat.reduceBEq, Nat.reduceBNe, reduceIte, reduceDIte, reduceCtorEq]
              simp only [f.en1, f.en2, ej0, ej1, ej2, Int.toNat_natCast, nth32] at hb3
              exact q_next g2 ht.2 hD1 hq hb3
            · intro hb3
              try simp only [decide_eq_true_eq, decide_eq_false_iff_not, beq_eq_false_iff_ne, bne_eq_false_iff_eq, Bool.not_eq_false', Bool.and_eq_false_imp] at hb3
              refine r_exit ?_
              refine k_seq_exit ?_
              refine k_round_exit ?_
              refine k_block_exit ?_
              refine k_seq ?_
              refine r_cut (fun (z : Int × List Int) => (⟨[(8, .l (.z (.int .u32) (scaleOf o))), (9, .l (.ownS 1392)), (10, .l (.z (.slice (.int .u32)) D)), (11, .l (.z (.int .i64) (List.length o : Int))), (12, .l (.ownS 62)), (13, .l (.z (.int .i64) (j : Int))), (15, .l (.z (.int .u64) z.1))], [(1392, .arr (.int .u32) 89 z.2), (62, .arr (.int .u32) 89 Q)]⟩ : AState)) (fun z => z.1 = valL ((T.drop j).take (p + 3)) / valL D ∧ z.2 = T.take j ++ put (T.drop j) (p + 3) (valL ((T.drop j).take (p + 3)) - z.1 * valL D)) ?_ ?_
              · refine r_seq ?_
                show J X _ _ _
                refine r_region hG (by simp only [hw17, hT, tab55, lendArg.eq_def, lenLV.eq_def, cCompare, cShort, cScaled, cLose, cGain, cWhole, mx0, mx1, mx2, mx3, mx4, mx5, effOp, endCall, callOp, appendOp, sliceLV, Ty.fieldTy, Ty.fieldOf, Nat.reduceLT, Nat.reduceEqDiff, Nat.reduceAdd, Nat.reduceMul, Nat.reduceSub, Nat.reduceLeDiff, Nat.reduceBEq, Nat.reduceBNe, reduceIte, reduceDIte, reduceCtorEq]; rfl) ?_ ?_ -- R17
                · try simp only [and_true, true_and]
                  simp only [Int.toNat_natCast]
                  exact ⟨⟨by omega, by omega⟩, ⟨hz.2.1.drop j, f.hL, ⟨hq.2.2.2, hq.2.1⟩, by rw [hDl, List.length_drop]; omega, by rw [hDl]; unfold CAP; omega⟩, by rw [List.length_take]; omega⟩
                refine k_seq ?_
                refine r_cond (by simp only [hT, tab55, lendArg.eq_def, lenLV.eq_def, mx0, mx1, mx2, mx3, mx4, mx5, effOp, endCall, callOp, appendOp, sliceLV, Ty.fieldTy, Ty.fieldOf, Nat.reduceLT, Nat.reduceEqDiff, Nat.reduceAdd, Nat.reduceMul, Nat.reduceSub, Nat.reduceLeDiff, Nat.reduceBEq, Nat.reduceBNe, reduceIte, reduceDIte, reduceCtorEq]; rfl) ?_ ?_
                · intro hb4
                  try simp only [decide_eq_true_eq, decide_eq_false_iff_not, beq_iff_eq, bne_iff_ne, Bool.not_eq_true', Bool.and_eq_true] at hb4
                  refine r_seq ?_
                  show J X _ _ _
                  refine r_region hG (by simp only [hT, tab55, lendArg.eq_def, lenLV.eq_def, cCompare, cShort, cScaled, cLose, cGain, cWhole, mx0, mx1, mx2, mx3, mx4, mx5, effOp, endCall, callOp, appendOp, sliceLV, Ty.fieldTy, Ty.fieldOf, Nat.reduceLT, Nat.reduceEqDiff, Nat.reduceAdd, Nat.reduceMul, Nat.reduceSub, Nat.reduceLeDiff, Nat.reduceBEq, Nat.reduceBNe, reduceIte, reduceDIte, reduceCtorEq]; rfl) ?_ ?_ -- R18
                  · trivial
                  refine k_seq ?_
                  show J X _ _ _
                  refine r_region hG (by simp only [hw17, hw19, hT, tab55, lendArg.eq_def, lenLV.eq_def, cCompare, cShort, cScaled, cLose, cGain, cWhole, mx0, mx1, mx2, mx3, mx4, mx5, effOp, endCall, callOp, appendOp, sliceLV, Ty.fieldTy, Ty.fieldOf, Nat.reduceLT, Nat.reduceEqDiff, Nat.reduceAdd, Nat.reduceMul, Nat.reduceSub, Nat.reduceLeDiff, Nat.reduceBEq, Nat.reduceBNe, reduceIte, reduceDIte, reduceCtorEq]; rfl) ?_ ?_ -- R19
                  · try simp only [and_true, true_and]
                    simp only [Int.toNat_natCast, f.hDl3]
                    rw [(take_win _ hTj).1, (take_win _ hTj).2, win_len _ hTj]
                    exact ⟨⟨by omega, by omega⟩, ⟨put_lim (hz.2.1.drop j) _ _, f.hL, by rw [put_len _ (by rw [List.length_drop]; omega), List.length_drop]; omega, by rw [hDl]; unfold CAP; omega⟩, by rw [List.length_take]; omega⟩
                  show ∃ z, _
                  simp only [ml0, ml1, Nat.reduceLT, Nat.reduceEqDiff, Nat.reduceAdd, Nat.reduceMul, Nat.reduceSub, Nat.reduceLeDiff, Nat.reduceBEq, Nat.reduceBNe, reduceIte, reduceDIte, reduceCtorEq]
                  simp only [Int.toNat_natCast, f.hDl3] at hb4 ⊢
                  simp only [f.en1, f.en2, ej0, ej1, ej2, Int.toNat_natCast, nth32] at hb3
                  have hst := q_stop g2 ht.2 hD1 hq hb3
                  first | (have hq1 := hst.1 hb4; have hqn := g.qnn; have hql := g.qlt; have hB : LB = 1000000000 := rfl; rw [w64 (x := q - 1) (by omega) (by omega), lose_back hTj]; exact ⟨hq1, rfl⟩) | exact ⟨hst.2 hb4, trivial⟩ | exact ⟨hst.2 hb4, rfl⟩
                · intro hb4
                  try simp only [decide_eq_true_eq, decide_eq_false_iff_not, beq_eq_false_iff_ne, bne_eq_false_iff_eq, Bool.not_eq_false', Bool.and_eq_false_imp] at hb4
                  refine r_skip ?_
                  show ∃ z, _
                  simp only [ml0, ml1, Nat.reduceLT, Nat.reduceEqDiff, Nat.reduceAdd, Nat.reduceMul, Nat.reduceSub, Nat.reduceLeDiff, Nat.reduceBEq, Nat.reduceBNe, reduceIte, reduceDIte, reduceCtorEq]
                  simp only [Int.toNat_natCast, f.hDl3] at hb4 ⊢
                  simp only [f.en1, f.en2, ej0, ej1, ej2, Int.toNat_natCast, nth32] at hb3
                  have hst := q_stop g2 ht.2 hD1 hq hb3
                  first | (have hq1 := hst.1 hb4; have hqn := g.qnn; have hql := g.qlt; have hB : LB = 1000000000 := rfl; rw [w64 (x := q - 1) (by omega) (by omega), lose_back hTj]; exact ⟨hq1, rfl⟩) | exact ⟨hst.2 hb4, trivial⟩ | exact ⟨hst.2 hb4, rfl⟩
              rintro ⟨q2, Tn⟩ hq2
              try dsimp only at hq2
              show J X _ _ _
              refine r_region hG (by simp only [hT, tab55, lendArg.eq_def, lenLV.eq_def, cCompare, cShort, cScaled, cLose, cGain, cWhole, mx0, mx1, mx2, mx3, mx4, mx5, effOp, endCall, callOp, appendOp, sliceLV, Ty.fieldTy, Ty.fieldOf, Nat.reduceLT, Nat.reduceEqDiff, Nat.reduceAdd, Nat.reduceMul, Nat.reduceSub, Nat.reduceLeDiff, Nat.reduceBEq, Nat.reduceBNe, reduceIte, reduceDIte, reduceCtorEq]; rfl) ?_ ?_ -- R20
              · try simp only [and_true, true_and]
                exact ⟨⟨by omega, by omega⟩, by omega⟩
              refine k_block ?_
              refine k_seq ?_
              show J X _ _ _
              refine r_region hG (by simp only [hT, tab55, lendArg.eq_def, lenLV.eq_def, cCompare, cShort, cScaled, cLose, cGain, cWhole, mx0, mx1, mx2, mx3, mx4, mx5, effOp, endCall, callOp, appendOp, sliceLV, Ty.fieldTy, Ty.fieldOf, Nat.reduceLT, Nat.reduceEqDiff, Nat.reduceAdd, Nat.reduceMul, Nat.reduceSub, Nat.reduceLeDiff, Nat.reduceBEq, Nat.reduceBNe, reduceIte, reduceDIte, reduceCtorEq]; rfl) ?_ ?_ -- R12
              · trivial
              show ∃ z, _
              simp only [ml0, ml1, Nat.reduceLT, Nat.reduceEqDiff, Nat.reduceAdd, Nat.reduceMul, Nat.reduceSub, Nat.reduceLeDiff, Nat.reduceBEq, Nat.reduceBNe, reduceIte, reduceDIte, reduceCtorEq]
              rw [wi (x := (j : Int) - 1) (by omega) (by omega), hq2.2, Int.toNat_natCast, w32 (by rw [hq2.1]; exact g.qnn) (by rw [hq2.1]; have := g.qlt; have hB : LB = 1000000000 := rfl; omega)]
              exact ⟨j, rfl, iter_next f.hL f.hDl f.hVp f.hlm hz hq2.1, by omega⟩
        · intro hb2
          try simp only [decide_eq_true_eq, decide_eq_false_iff_not, beq_eq_false_iff_ne, bne_eq_false_iff_eq, Bool.not_eq_false', Bool.and_eq_false_imp] at hb2
          refine r_exit ?_
          refine k_seq_exit ?_
          refine k_round_exit ?_
          refine k_block_exit ?_
          refine k_seq ?_
          refine r_seq ?_
          show J X _ _ _
          refine r_region hG (by simp only [hT, tab55, lendArg.eq_def, lenLV.eq_def, cCompare, cShort, cScaled, cLose, cGain, cWhole, mx0, mx1, mx2, mx3, mx4, mx5, effOp, endCall, callOp, appendOp, sliceLV, Ty.fieldTy, Ty.fieldOf, Nat.reduceLT, Nat.reduceEqDiff, Nat.reduceAdd, Nat.reduceMul, Nat.reduceSub, Nat.reduceLeDiff, Nat.reduceBEq, Nat.reduceBNe, reduceIte, reduceDIte, reduceCtorEq]; rfl) ?_ ?_ -- R21
          · try simp only [and_true, true_and]
            exact div_side21 f hz (by omega)
          refine k_seq ?_
          refine r_seq ?_
          show J X _ _ _
          refine r_region hG (by simp only [hT, tab55, lendArg.eq_def, lenLV.eq_def, cCompare, cShort, cScaled, cLose, cGain, cWhole, mx0, mx1, mx2, mx3, mx4, mx5, effOp, endCall, callOp, appendOp, sliceLV, Ty.fieldTy, Ty.fieldOf, Nat.reduceLT, Nat.reduceEqDiff, Nat.reduceAdd, Nat.reduceMul, Nat.reduceSub, Nat.reduceLeDiff, Nat.reduceBEq, Nat.reduceBNe, reduceIte, reduceDIte, reduceCtorEq]; rfl) ?_ ?_ -- R22
          · trivial
          refine k_seq ?_
          refine r_ret ?_
          refine ⟨[62], ?_⟩
          simp only [hT, tab55, mr0, mr1, mr2, Nat.reduceLT, Nat.reduceEqDiff, Nat.reduceAdd, Nat.reduceMul, Nat.reduceSub, Nat.reduceLeDiff, Nat.reduceBEq, Nat.reduceBNe, reduceIte, reduceDIte, reduceCtorEq]
          obtain rfl : k = 0 := by omega
          exact div_fin f hz

end Go.Proofs.YtkgbdpmhdplddaaGreatDoor
end

section
/- The functions of the package exact, one after the other: each meets its contract. -/
set_option linter.unusedSimpArgs false
set_option linter.unusedVariables false
set_option maxRecDepth 100000
namespace Go.Proofs.YtkgbdpmhdplddaaGreatDoor
open Go Go.Cm Go.Proofs

def tab35 (B : Base) : Tab := { types := [(3, (.int .i64)), (4, .bool), (61, (.slice (.int .u32))), (63, (.st (.pair .bool (.slice (.int .u32))))), (89, (.int .u32)), (91, (.int .u64))], elems := [(61, 89)], cons := [(66, cWhole), (67, cDivided), (72, cValue)], hint := [], N := 68, base := B }
theorem good35 {B : Base} (hB : Tabs B) : MGood Tryz.prog (tab35 B) := ⟨⟨types_cons ty3 (types_cons ty4 (types_cons ty61 (types_cons ty63 (types_cons ty89 (types_cons ty91 (types_nil)))))), elems_cons (by kernel_rfl) (elems_nil), by simp only [tab35, ioB]; omega⟩, cons_ok (cals_cons (cal_ok Tryz.func66 (by kernel_rfl) rfl (valid49 hB)) (cals_cons (cal_ok Tryz.func67 (by kernel_rfl) rfl (valid55 hB)) (cals_cons (cal_ok Tryz.func72 (by kernel_rfl) rfl (valid59 hB)) (cals_nil)))), by kernel_rfl⟩
def cGcdW : Con := fun l os => match l, os with
  | [.z (.st (.pair .bool (.slice (.int .u32)))) x, .z (.st (.pair .bool (.slice (.int .u32)))) y], [] => some (GcdPre x y, [.z (.st (.pair .bool (.slice (.int .u32)))) (enc (gcdI (dec x) (dec y)))], [])
  | _, _ => none

theorem valid35 {B : Base} (hB : Tabs B) : Valid B Tryz.prog 42 cGcdW := by
  refine valid_of_J (T := tab35 B) (good35 hB).tab Tryz.func42 rfl rfl rfl ?_
  intro args os C rs os' hc hC
  unfold cGcdW at hc
  split at hc
  case h_2 => cases hc
  rename_i x y
  cases hc
  refine ⟨by simp only [List.length_cons, List.length_nil, tab35]; omega, rfl, ?_⟩
  intro X hP hT hr
  have hG : MGood X.P X.T := by rw [hP, hT]; exact good35 hB
  unfold tab35 at hT
  have hX := And.intro (@cDivided.eq_1) <| And.intro (@cWhole.eq_1) <| @cValue.eq_1
  simp only [Tryz.f42, argEnv, ioList, ioB]
  refine r_seq ?_
  refine q_region hG ?_ ?_ -- R0
  · trivial
  refine k_seq ?_
  refine r_seq ?_
  refine q_draw hG ?_ ?_ -- R1
  · trivial
  refine k_seq ?_
  refine r_seq ?_
  refine j_block ?_
  refine j_loop (fun (z : List Int × List Int) => (⟨[(4, .l (.ownP 4 0)), (5, .l (.z (.slice (.int .u32)) z.1)), (6, .l (.z (.slice (.int .u32)) z.2))], [(4, .box 63 [.z .bool false, .val (.slice none 0 0)])]⟩ : AState)) (fun z => GPhi x y z.1 z.2) (fun z => (valL z.2).toNat) (x.2, y.2) ?_ ?_ ?_
  · simp only [ml0, ml1, Nat.reduceLT, Nat.reduceEqDiff, Nat.reduceAdd, Nat.reduceMul, Nat.reduceSub, Nat.reduceLeDiff, Nat.reduceBEq, Nat.reduceBNe, reduceIte, reduceDIte, reduceCtorEq]
  · exact GPhi.start hC
  · rintro ⟨u, v⟩ hz
    try dsimp only at hz
    have hcc : 2 * (List.length x.2 + List.length y.2) + 4 < 1000000000000 := hC.hc
    refine r_seq ?_
    refine r_seq ?_
    refine q_region hG ?_ ?_ -- R2
    · trivial
    refine k_seq ?_
    refine q_cond ?_ ?_
    · intro hb0
      try simp only [decide_eq_true_eq, decide_eq_false_iff_not, beq_iff_eq, bne_iff_ne, Bool.not_eq_true', Bool.and_eq_true] at hb0
      refine r_skip ?_
      refine k_seq ?_
      refine j_block ?_
      refine r_seq ?_
      refine q_region hG ?_ ?_ -- R3
      · try simp only [and_true, true_and]
        exact hz.side3 hC (ne_of_len (by omega))
      refine k_seq ?_
      refine q_region hG ?_ ?_ -- R4
      · try simp only [and_true, true_and]
        exact hz.side4 hC (ne_of_len (by omega))
      refine k_block ?_
      show ∃ z, _
      simp only [ml0, ml1, Nat.reduceLT, Nat.reduceEqDiff, Nat.reduceAdd, Nat.reduceMul, Nat.reduceSub, Nat.reduceLeDiff, Nat.reduceBEq, Nat.reduceBNe, reduceIte, reduceDIte, reduceCtorEq]
      exact hz.next hC (ne_of_len (by omega))
    · intro hb0
      try simp only [decide_eq_true_eq, decide_eq_false_iff_not, beq_eq_false_iff_ne, bne_eq_false_iff_eq, Bool.not_eq_false', Bool.and_eq_false_imp] at hb0
      refine r_exit ?_
      refine k_seq_exit ?_
      refine k_round_exit ?_
      refine k_block_exit ?_
      refine k_seq ?_
      refine r_seq ?_
      refine r_seq ?_
      refine q_region hG ?_ ?_ -- R5
      · trivial
      refine k_seq ?_
      refine q_cond ?_ ?_
      · intro hb1
        try simp only [decide_eq_true_eq, decide_eq_false_iff_not, beq_iff_eq, bne_iff_ne, Bool.not_eq_true', Bool.and_eq_true] at hb1
        refine r_seq ?_
        refine q_region hG ?_ ?_ -- R6
        · try simp only [and_true, true_and]
          exact ⟨hz.hu.1, by have := hz.hul; unfold CAP; omega⟩
        refine k_seq ?_
        refine r_ret ?_
        refine k_seq_ret ?_
        refine ⟨[65], ?_⟩
        simp only [hT, tab35, mr0, mr1, mr2, Nat.reduceLT, Nat.reduceEqDiff, Nat.reduceAdd, Nat.reduceMul, Nat.reduceSub, Nat.reduceLeDiff, Nat.reduceBEq, Nat.reduceBNe, reduceIte, reduceDIte, reduceCtorEq]
        exact hz.stop (nil_of_len (by omega))
      · intro hb1
        simp only [beq_eq_false_iff_ne, ne_eq] at hb1
        refine r_skip ?_
        refine k_seq ?_
        refine r_seq ?_
        refine q_region hG ?_ ?_ -- R7
        · try simp only [and_true, true_and]
          exact hz.side3 hC (ne_of_len (by omega))
        refine k_seq ?_
        refine r_seq ?_
        refine q_region hG ?_ ?_ -- R8
        · try simp only [and_true, true_and]
          have hr := hz.rest (ne_of_len (by omega))
          exact ⟨⟨hz.hv.1, by omega⟩, hz.side4 hC (ne_of_len (by omega)), hr.1.1, by omega⟩
        refine k_seq ?_
        refine r_seq ?_
        refine j_block ?_
        refine j_loop (fun (z : Int × Int) => (⟨[(4, .l (.ownP 4 0)), (11, .l (.z (.int .u64) z.1)), (12, .l (.z (.int .u64) z.2))], [(4, .box 63 [.z .bool false, .val (.slice none 0 0)])]⟩ : AState)) (fun z => EPhi x y z.1 z.2) (fun z => z.2.toNat) (valL v, valL (enc (dec (false, divR u v))).2) ?_ ?_ ?_
        · simp only [ml0, ml1, Nat.reduceLT, Nat.reduceEqDiff, Nat.reduceAdd, Nat.reduceMul, Nat.reduceSub, Nat.reduceLeDiff, Nat.reduceBEq, Nat.reduceBNe, reduceIte, reduceDIte, reduceCtorEq]
        · exact EPhi.start hz hC (ne_of_len (by omega)) (by omega)
        · rintro ⟨a, b⟩ he
          try dsimp only at he
          refine r_seq ?_
          refine r_seq ?_
          refine q_region hG ?_ ?_ -- R9
          · trivial
          refine k_seq ?_
          refine q_cond ?_ ?_
          · intro hb2
            try simp only [decide_eq_true_eq, decide_eq_false_iff_not, beq_iff_eq, bne_iff_ne, Bool.not_eq_true', Bool.and_eq_true] at hb2
            refine r_skip ?_
            refine k_seq ?_
            refine j_block ?_
            refine q_draw hG ?_ ?_ -- R10
            · try simp only [and_true, true_and]
              omega
            refine k_block ?_
            show ∃ z, _
            simp only [ml0, ml1, Nat.reduceLT, Nat.reduceEqDiff, Nat.reduceAdd, Nat.reduceMul, Nat.reduceSub, Nat.reduceLeDiff, Nat.reduceBEq, Nat.reduceBNe, reduceIte, reduceDIte, reduceCtorEq]
            exact he.next hb2
          · intro hb2
            try simp only [decide_eq_false_iff_not] at hb2
            have he2 := he.stop hb2
            refine r_exit ?_
            refine k_seq_exit ?_
            refine k_round_exit ?_
            refine k_block_exit ?_
            refine k_seq ?_
            refine r_seq ?_
            refine q_region hG ?_ ?_ -- R11
            · trivial
            refine k_seq ?_
            refine r_seq ?_
            refine j_block ?_
            refine j_loop (fun (z : Nat × List Int) => (⟨[(11, .l (.z (.int .u64) (z.1 : Int))), (13, .l (.ownP 13 0)), (4, .l (.ownP 4 0))], [(13, .box 63 [.z .bool false, .ownS 65]), (65, .arr (.int .u32) 89 z.2), (4, .box 63 [.z .bool false, .val (.slice none 0 0)])]⟩ : AState)) (fun z => z.2 ++ limbs z.1 = limbs (gcdI (dec x) (dec y)).toNat ∧ z.1 < 18446744073709551616) (fun z => z.1) ((gcdI (dec x) (dec y)).toNat, []) ?_ ?_ ?_
            · simp only [ml0, ml1, Nat.reduceLT, Nat.reduceEqDiff, Nat.reduceAdd, Nat.reduceMul, Nat.reduceSub, Nat.reduceLeDiff, Nat.reduceBEq, Nat.reduceBNe, reduceIte, reduceDIte, reduceCtorEq]
              exact ⟨he2.1, by unfold ioB; omega⟩
            · exact ⟨by simp, he2.2⟩
            · rintro ⟨w, l⟩ ⟨g1, g2⟩
              try dsimp only at g1 g2
              refine r_seq ?_
              refine r_seq ?_
              refine q_region hG ?_ ?_ -- R12
              · trivial
              refine k_seq ?_
              refine q_cond ?_ ?_
              · intro hb3
                try simp only [decide_eq_true_eq, decide_eq_false_iff_not, beq_iff_eq, bne_iff_ne, Bool.not_eq_true', Bool.and_eq_true] at hb3
                refine r_skip ?_
                refine k_seq ?_
                refine r_seq ?_
                refine j_block ?_
                refine q_region hG ?_ ?_ -- R14
                · try simp only [and_true, true_and]
                  have h3 := limbs_len3 he2.2
                  have h4 := congrArg List.length g1
                  simp only [List.length_append] at h4
                  exact ⟨by decide, by unfold Cm.Roomy; omega⟩
                refine k_block ?_
                refine k_seq ?_
                refine q_region hG ?_ ?_ -- R13
                · trivial
                show ∃ z, _
                simp only [ml0, ml1, Nat.reduceLT, Nat.reduceEqDiff, Nat.reduceAdd, Nat.reduceMul, Nat.reduceSub, Nat.reduceLeDiff, Nat.reduceBEq, Nat.reduceBNe, reduceIte, reduceDIte, reduceCtorEq]
                exact small_round g1 g2 hb3
              · intro hb3
                try simp only [decide_eq_true_eq, decide_eq_false_iff_not, beq_eq_false_iff_ne, bne_eq_false_iff_eq, Bool.not_eq_false', Bool.and_eq_false_imp] at hb3
                refine r_exit ?_
                refine k_seq_exit ?_
                refine k_round_exit ?_
                refine k_block_exit ?_
                refine k_seq ?_
                refine r_seq ?_
                refine q_region hG ?_ ?_ -- R15
                · trivial
                refine k_seq ?_
                refine r_ret ?_
                refine ⟨[65], ?_⟩
                simp only [hT, tab35, mr0, mr1, mr2, Nat.reduceLT, Nat.reduceEqDiff, Nat.reduceAdd, Nat.reduceMul, Nat.reduceSub, Nat.reduceLeDiff, Nat.reduceBEq, Nat.reduceBNe, reduceIte, reduceDIte, reduceCtorEq]
                have h0 : w = 0 := by omega
                subst h0
                rw [show limbs 0 = [] by simp [limbs], List.append_nil] at g1
                rw [g1]; exact gcd_enc _ _

end Go.Proofs.YtkgbdpmhdplddaaGreatDoor
end

section
/- The functions of the package exact, one after the other: each meets its contract. -/
set_option linter.unusedSimpArgs false
set_option linter.unusedVariables false
set_option maxRecDepth 100000
namespace Go.Proofs.YtkgbdpmhdplddaaGreatDoor
open Go Go.Cm Go.Proofs

def tab25 (B : Base) : Tab := { types := [(29, (.int .i64)), (57, (.slice (.st (.pair .bool (.slice (.int .u32)))))), (63, (.st (.pair .bool (.slice (.int .u32))))), (84, (.slice .str))], elems := [(84, 9)], cons := [(31, cReads), (38, cMul), (42, cGcdW), (53, cTold), (55, cAdd), (56, cSub)], hint := [], N := 31, base := B }
theorem good25 {B : Base} (hB : Tabs B) : MGood Tryz.prog (tab25 B) := ⟨⟨types_cons ty29 (types_cons ty57 (types_cons ty63 (types_cons ty84 (types_nil)))), elems_cons (by kernel_rfl) (elems_nil), by simp only [tab25, ioB]; omega⟩, cons_ok (cals_cons (cal_ok Tryz.func31 (by kernel_rfl) rfl (valid30 hB)) (cals_cons (cal_ok Tryz.func38 (by kernel_rfl) rfl (valid27 hB)) (cals_cons (cal_ok Tryz.func42 (by kernel_rfl) rfl (valid35 hB)) (cals_cons (cal_ok Tryz.func53 (by kernel_rfl) rfl (valid48 hB)) (cals_cons (cal_ok Tryz.func55 (by kernel_rfl) rfl (valid26 hB)) (cals_cons (cal_ok Tryz.func56 (by kernel_rfl) rfl (valid29 hB)) (cals_nil))))))), by kernel_rfl⟩
def cApp26 : Con := fun l os => match l, os with
  | [.z .str a, .z .str b, .val (.func (.func g) fi ca)], [] => if g = 55 ∧ fi.size = 0 ∧ ca.size = 0 then some (Short a ∧ Short b, [.z .str (resS (chkAll [a, b]) (numI a + numI b)), .z (.int .i64) (resE (chkAll [a, b]) (numI a + numI b))], []) else none
  | _, _ => none

theorem valid25_26 {B : Base} (hB : Tabs B) : Valid B Tryz.prog 37 cApp26 := by
  refine valid_of_J (T := tab25 B) (good25 hB).tab Tryz.func37 rfl rfl rfl ?_
  intro args os C rs os' hc hC
  unfold cApp26 at hc
  split at hc
  case h_2 => cases hc
  rename_i a b g fi ca
  split at hc
  case isFalse => cases hc
  rename_i hg
  obtain ⟨rfl, hf1, hf2⟩ := hg
  obtain rfl := Array.eq_empty_of_size_eq_zero hf1
  obtain rfl := Array.eq_empty_of_size_eq_zero hf2
  cases hc
  refine ⟨by simp only [List.length_cons, List.length_nil, tab25]; omega, rfl, ?_⟩
  intro X hP hT hr
  have hG : MGood X.P X.T := by rw [hP, hT]; exact good25 hB
  unfold tab25 at hT
  have hX := And.intro (@cReads.eq_1) <| And.intro (@cTold.eq_1) <| And.intro (@cAdd.eq_1) <| And.intro (@cMul.eq_1) <| And.intro (@cSub.eq_1) <| @cGcdW.eq_1
  simp only [Tryz.f37, argEnv, ioList, ioB]
  refine r_seq ?_
  refine q_region hG ?_ ?_ -- R0
  · trivial
  refine k_seq ?_
  refine r_seq ?_
  refine q_region hG ?_ ?_ -- R1
  · try simp only [and_true, true_and]
    exact shorts2 hC
  refine k_seq ?_
  refine r_seq ?_
  refine r_seq ?_
  refine q_region hG ?_ ?_ -- R2
  · trivial
  refine k_seq ?_
  refine q_cond ?_ ?_
  · intro hb0
    try simp only [decide_eq_true_eq, decide_eq_false_iff_not, beq_iff_eq, bne_iff_ne, Bool.not_eq_true', Bool.and_eq_true] at hb0
    refine r_seq ?_
    refine q_region hG ?_ ?_ -- R3
    · trivial
    refine k_seq ?_
    refine r_ret ?_
    refine k_seq_ret ?_
    refine ⟨[], ?_⟩
    simp only [hT, tab25, mr0, mr1, mr2, Nat.reduceLT, Nat.reduceEqDiff, Nat.reduceAdd, Nat.reduceMul, Nat.reduceSub, Nat.reduceLeDiff, Nat.reduceBEq, Nat.reduceBNe, reduceIte, reduceDIte, reduceCtorEq]
    exact app_bad hb0
  · intro hb0
    try simp only [decide_eq_true_eq, decide_eq_false_iff_not, beq_eq_false_iff_ne, bne_eq_false_iff_eq, Bool.not_eq_false', Bool.and_eq_false_imp] at hb0
    refine r_skip ?_
    refine k_seq ?_
    refine r_seq ?_
    refine q_draw hG ?_ ?_ -- R4
    · try simp only [and_true, true_and]
      obtain ⟨r1, r2, r3, r4, r5, r6⟩ := read2 hb0
      rw [r3, r4, dec_enc, dec_enc]
      obtain ⟨s1, s2, s3, s4⟩ := sum_len r5 r6
      exact ⟨⟨by omega, r1⟩, ⟨by omega, r2⟩, ⟨enc_ok _, enc_ok _, by unfold CAP; omega⟩, enc_ok _, by unfold CAP; omega⟩
    refine k_seq ?_
    refine r_ret ?_
    refine ⟨[], ?_⟩
    simp only [hT, tab25, mr0, mr1, mr2, Nat.reduceLT, Nat.reduceEqDiff, Nat.reduceAdd, Nat.reduceMul, Nat.reduceSub, Nat.reduceLeDiff, Nat.reduceBEq, Nat.reduceBNe, reduceIte, reduceDIte, reduceCtorEq]
    obtain ⟨r1, r2, r3, r4, r5, r6⟩ := read2 hb0
    rw [r3, r4, dec_enc, dec_enc, dec_enc]
    exact app_ok hb0

def cApp27 : Con := fun l os => match l, os with
  | [.z .str a, .z .str b, .val (.func (.func g) fi ca)], [] => if g = 38 ∧ fi.size = 0 ∧ ca.size = 0 then some (Short a ∧ Short b, [.z .str (resS (chkAll [a, b]) (numI a * numI b)), .z (.int .i64) (resE (chkAll [a, b]) (numI a * numI b))], []) else none
  | _, _ => none

theorem valid25_27 {B : Base} (hB : Tabs B) : Valid B Tryz.prog 37 cApp27 := by
  refine valid_of_J (T := tab25 B) (good25 hB).tab Tryz.func37 rfl rfl rfl ?_
  intro args os C rs os' hc hC
  unfold cApp27 at hc
  split at hc
  case h_2 => cases hc
  rename_i a b g fi ca
  split at hc
  case isFalse => cases hc
  rename_i hg
  obtain ⟨rfl, hf1, hf2⟩ := hg
  obtain rfl := Array.eq_empty_of_size_eq_zero hf1
  obtain rfl := Array.eq_empty_of_size_eq_zero hf2
  cases hc
  refine ⟨by simp only [List.length_cons, List.length_nil, tab25]; omega, rfl, ?_⟩
  intro X hP hT hr
  have hG : MGood X.P X.T := by rw [hP, hT]; exact good25 hB
  unfold tab25 at hT
  have hX := And.intro (@cReads.eq_1) <| And.intro (@cTold.eq_1) <| And.intro (@cAdd.eq_1) <| And.intro (@cMul.eq_1) <| And.intro (@cSub.eq_1) <| @cGcdW.eq_1
  simp only [Tryz.f37, argEnv, ioList, ioB]
  refine r_seq ?_
  refine q_region hG ?_ ?_ -- R0
  · trivial
  refine k_seq ?_
  refine r_seq ?_
  refine q_region hG ?_ ?_ -- R1
  · try simp only [and_true, true_and]
    exact shorts2 hC
  refine k_seq ?_
  refine r_seq ?_
  refine r_seq ?_
  refine q_region hG ?_ ?_ -- R2
  · trivial
  refine k_seq ?_
  refine q_cond ?_ ?_
  · intro hb0
    try simp only [decide_eq_true_eq, decide_eq_false_iff_not, beq_iff_eq, bne_iff_ne, Bool.not_eq_true', Bool.and_eq_true] at hb0
    refine r_seq ?_
    refine q_region hG ?_ ?_ -- R3
    · trivial
    refine k_seq ?_
    refine r_ret ?_
    refine k_seq_ret ?_
    refine ⟨[], ?_⟩
    simp only [hT, tab25, mr0, mr1, mr2, Nat.reduceLT, Nat.reduceEqDiff, Nat.reduceAdd, Nat.reduceMul, Nat.reduceSub, Nat.reduceLeDiff, Nat.reduceBEq, Nat.reduceBNe, reduceIte, reduceDIte, reduceCtorEq]
    exact app_bad hb0
  · intro hb0
    try simp only [decide_eq_true_eq, decide_eq_false_iff_not, beq_eq_false_iff_ne, bne_eq_false_iff_eq, Bool.not_eq_false', Bool.and_eq_false_imp] at hb0
    refine r_skip ?_
    refine k_seq ?_
    refine r_seq ?_
    refine q_draw hG ?_ ?_ -- R4
    · try simp only [and_true, true_and]
      obtain ⟨r1, r2, r3, r4, r5, r6⟩ := read2 hb0
      rw [r3, r4, dec_enc, dec_enc]
      obtain ⟨s1, s2, s3, s4⟩ := sum_len r5 r6
      exact ⟨⟨by omega, r1⟩, ⟨by omega, r2⟩, ⟨enc_ok _, enc_ok _, by unfold CAP; omega⟩, enc_ok _, by unfold CAP; omega⟩
    refine k_seq ?_
    refine r_ret ?_
    refine ⟨[], ?_⟩
    simp only [hT, tab25, mr0, mr1, mr2, Nat.reduceLT, Nat.reduceEqDiff, Nat.reduceAdd, Nat.reduceMul, Nat.reduceSub, Nat.reduceLeDiff, Nat.reduceBEq, Nat.reduceBNe, reduceIte, reduceDIte, reduceCtorEq]
    obtain ⟨r1, r2, r3, r4, r5, r6⟩ := read2 hb0
    rw [r3, r4, dec_enc, dec_enc, dec_enc]
    exact app_ok hb0

def cApp29 : Con := fun l os => match l, os with
  | [.z .str a, .z .str b, .val (.func (.func g) fi ca)], [] => if g = 56 ∧ fi.size = 0 ∧ ca.size = 0 then some (Short a ∧ Short b, [.z .str (resS (chkAll [a, b]) (numI a - numI b)), .z (.int .i64) (resE (chkAll [a, b]) (numI a - numI b))], []) else none
  | _, _ => none

theorem valid25_29 {B : Base} (hB : Tabs B) : Valid B Tryz.prog 37 cApp29 := by
  refine valid_of_J (T := tab25 B) (good25 hB).tab Tryz.func37 rfl rfl rfl ?_
  intro args os C rs os' hc hC
  unfold cApp29 at hc
  split at hc
  case h_2 => cases hc
  rename_i a b g fi ca
  split at hc
  case isFalse => cases hc
  rename_i hg
  obtain ⟨rfl, hf1, hf2⟩ := hg
  obtain rfl := Array.eq_empty_of_size_eq_zero hf1
  obtain rfl := Array.eq_empty_of_size_eq_zero hf2
  cases hc
  refine ⟨by simp only [List.length_cons, List.length_nil, tab25]; omega, rfl, ?_⟩
  intro X hP hT hr
  have hG : MGood X.P X.T := by rw [hP, hT]; exact good25 hB
  unfold tab25 at hT
  have hX := And.intro (@cReads.eq_1) <| And.intro (@cTold.eq_1) <| And.intro (@cAdd.eq_1) <| And.intro (@cMul.eq_1) <| And.intro (@cSub.eq_1) <| @cGcdW.eq_1
  simp only [Tryz.f37, argEnv, ioList, ioB]
  refine r_seq ?_
  refine q_region hG ?_ ?_ -- R0
  · trivial
  refine k_seq ?_
  refine r_seq ?_
  refine q_region hG ?_ ?_ -- R1
  · try simp only [and_true, true_and]
    exact shorts2 hC
  refine k_seq ?_
  refine r_seq ?_
  refine r_seq ?_
  refine q_region hG ?_ ?_ -- R2
  · trivial
  refine k_seq ?_
  refine q_cond ?_ ?_
  · intro hb0
    try simp only [decide_eq_true_eq, decide_eq_false_iff_not, beq_iff_eq, bne_iff_ne, Bool.not_eq_true', Bool.and_eq_true] at hb0
    refine r_seq ?_
    refine q_region hG ?_ ?_ -- R3
    · trivial
    refine k_seq ?_
    refine r_ret ?_
    refine k_seq_ret ?_
    refine ⟨[], ?_⟩
    simp only [hT, tab25, mr0, mr1, mr2, Nat.reduceLT, Nat.reduceEqDiff, Nat.reduceAdd, Nat.reduceMul, Nat.reduceSub, Nat.reduceLeDiff, Nat.reduceBEq, Nat.reduceBNe, reduceIte, reduceDIte, reduceCtorEq]
    exact app_bad hb0
  · intro hb0
    try simp only [decide_eq_true_eq, decide_eq_false_iff_not, beq_eq_false_iff_ne, bne_eq_false_iff_eq, Bool.not_eq_false', Bool.and_eq_false_imp] at hb0
    refine r_skip ?_
    refine k_seq ?_
    refine r_seq ?_
    refine q_draw hG ?_ ?_ -- R4
    · try simp only [and_true, true_and]
      obtain ⟨r1, r2, r3, r4, r5, r6⟩ := read2 hb0
      rw [r3, r4, dec_enc, dec_enc]
      obtain ⟨s1, s2, s3, s4⟩ := sum_len r5 r6
      exact ⟨⟨by omega, r1⟩, ⟨by omega, r2⟩, ⟨enc_ok _, enc_ok _, by unfold CAP; omega⟩, enc_ok _, by unfold CAP; omega⟩
    refine k_seq ?_
    refine r_ret ?_
    refine ⟨[], ?_⟩
    simp only [hT, tab25, mr0, mr1, mr2, Nat.reduceLT, Nat.reduceEqDiff, Nat.reduceAdd, Nat.reduceMul, Nat.reduceSub, Nat.reduceLeDiff, Nat.reduceBEq, Nat.reduceBNe, reduceIte, reduceDIte, reduceCtorEq]
    obtain ⟨r1, r2, r3, r4, r5, r6⟩ := read2 hb0
    rw [r3, r4, dec_enc, dec_enc, dec_enc]
    exact app_ok hb0

def cApp35 : Con := fun l os => match l, os with
  | [.z .str a, .z .str b, .val (.func (.func g) fi ca)], [] => if g = 42 ∧ fi.size = 0 ∧ ca.size = 0 then some (Short a ∧ Short b, [.z .str (resS (chkAll [a, b]) (gcdI (numI a) (numI b))), .z (.int .i64) (resE (chkAll [a, b]) (gcdI (numI a) (numI b)))], []) else none
  | _, _ => none

theorem valid25_35 {B : Base} (hB : Tabs B) : Valid B Tryz.prog 37 cApp35 := by
  refine valid_of_J (T := tab25 B) (good25 hB).tab Tryz.func37 rfl rfl rfl ?_
  intro args os C rs os' hc hC
  unfold cApp35 at hc
  split at hc
  case h_2 => cases hc
  rename_i a b g fi ca
  split at hc
  case isFalse => cases hc
  rename_i hg
  obtain ⟨rfl, hf1, hf2⟩ := hg
  obtain rfl := Array.eq_empty_of_size_eq_zero hf1
  obtain rfl := Array.eq_empty_of_size_eq_zero hf2
  cases hc
  refine ⟨by simp only [List.length_cons, List.length_nil, tab25]; omega, rfl, ?_⟩
  intro X hP hT hr
  have hG : MGood X.P X.T := by rw [hP, hT]; exact good25 hB
  unfold tab25 at hT
  have hX := And.intro (@cReads.eq_1) <| And.intro (@cTold.eq_1) <| And.intro (@cAdd.eq_1) <| And.intro (@cMul.eq_1) <| And.intro (@cSub.eq_1) <| @cGcdW.eq_1
  simp only [Tryz.f37, argEnv, ioList, ioB]
  refine r_seq ?_
  refine q_region hG ?_ ?_ -- R0
  · trivial
  refine k_seq ?_
  refine r_seq ?_
  refine q_region hG ?_ ?_ -- R1
  · try simp only [and_true, true_and]
    exact shorts2 hC
  refine k_seq ?_
  refine r_seq ?_
  refine r_seq ?_
  refine q_region hG ?_ ?_ -- R2
  · trivial
  refine k_seq ?_
  refine q_cond ?_ ?_
  · intro hb0
    try simp only [decide_eq_true_eq, decide_eq_false_iff_not, beq_iff_eq, bne_iff_ne, Bool.not_eq_true', Bool.and_eq_true] at hb0
    refine r_seq ?_
    refine q_region hG ?_ ?_ -- R3
    · trivial
    refine k_seq ?_
    refine r_ret ?_
    refine k_seq_ret ?_
    refine ⟨[], ?_⟩
    simp only [hT, tab25, mr0, mr1, mr2, Nat.reduceLT, Nat.reduceEqDiff, Nat.reduceAdd, Nat.reduceMul, Nat.reduceSub, Nat.reduceLeDiff, Nat.reduceBEq, Nat.reduceBNe, reduceIte, reduceDIte, reduceCtorEq]
    exact app_bad hb0
  · intro hb0
    try simp only [decide_eq_true_eq, decide_eq_false_iff_not, beq_eq_false_iff_ne, bne_eq_false_iff_eq, Bool.not_eq_false', Bool.and_eq_false_imp] at hb0
    refine r_skip ?_
    refine k_seq ?_
    refine r_seq ?_
    refine q_draw hG ?_ ?_ -- R4
    · try simp only [and_true, true_and]
      obtain ⟨r1, r2, r3, r4, r5, r6⟩ := read2 hb0
      rw [r3, r4, dec_enc, dec_enc]
      obtain ⟨s1, s2, s3, s4⟩ := sum_len r5 r6
      exact ⟨⟨by omega, r1⟩, ⟨by omega, r2⟩, ⟨enc_ok _, enc_ok _, by unfold CAP; omega⟩, enc_ok _, by unfold CAP; omega⟩
    refine k_seq ?_
    refine r_ret ?_
    refine ⟨[], ?_⟩
    simp only [hT, tab25, mr0, mr1, mr2, Nat.reduceLT, Nat.reduceEqDiff, Nat.reduceAdd, Nat.reduceMul, Nat.reduceSub, Nat.reduceLeDiff, Nat.reduceBEq, Nat.reduceBNe, reduceIte, reduceDIte, reduceCtorEq]
    obtain ⟨r1, r2, r3, r4, r5, r6⟩ := read2 hb0
    rw [r3, r4, dec_enc, dec_enc, dec_enc]
    exact app_ok hb0

def tab10 (B : Base) : Tab := { types := [(9, .str)], elems := [], cons := [(37, cApp26)], hint := [], N := 11, base := B }
theorem good10 {B : Base} (hB : Tabs B) : MGood Tryz.prog (tab10 B) := ⟨⟨types_cons ty9 (types_nil), elems_nil, by simp only [tab10, ioB]; omega⟩, cons_ok (cals_cons (cal_ok Tryz.func37 (by kernel_rfl) rfl (valid25_26 hB)) (cals_nil)), by kernel_rfl⟩
def cAddT : Con := fun l os => match l, os with
  | [.z .str a, .z .str b], [] => some (Short a ∧ Short b, [.z .str (resS (chkAll [a, b]) (numI a + numI b)), .z (.int .i64) (resE (chkAll [a, b]) (numI a + numI b))], [])
  | _, _ => none

theorem valid10 {B : Base} (hB : Tabs B) : Valid B Tryz.prog 24 cAddT := by
  refine valid_of_J (T := tab10 B) (good10 hB).tab Tryz.func24 rfl rfl rfl ?_
  intro args os C rs os' hc hC
  unfold cAddT at hc
  split at hc
  case h_2 => cases hc
  rename_i a b
  cases hc
  refine ⟨by simp only [List.length_cons, List.length_nil, tab10]; omega, rfl, ?_⟩
  intro X hP hT hr
  have hG : MGood X.P X.T := by rw [hP, hT]; exact good10 hB
  unfold tab10 at hT
  have hX := @cApp26.eq_1
  simp only [Tryz.f24, argEnv, ioList, ioB]
  refine r_seq ?_
  refine q_region hG ?_ ?_ -- R0
  · trivial
  refine k_seq ?_
  refine r_seq ?_
  refine q_region hG ?_ ?_ -- R1
  · try simp only [and_true, true_and]
    exact hC
  refine k_seq ?_
  refine r_ret ?_
  refine ⟨[], ?_⟩
  simp only [hT, tab10, mr0, mr1, mr2, Nat.reduceLT, Nat.reduceEqDiff, Nat.reduceAdd, Nat.reduceMul, Nat.reduceSub, Nat.reduceLeDiff, Nat.reduceBEq, Nat.reduceBNe, reduceIte, reduceDIte, reduceCtorEq]
  skip

def tab11 (B : Base) : Tab := { types := [(9, .str)], elems := [], cons := [(37, cApp27)], hint := [], N := 11, base := B }
theorem good11 {B : Base} (hB : Tabs B) : MGood Tryz.prog (tab11 B) := ⟨⟨types_cons ty9 (types_nil), elems_nil, by simp only [tab11, ioB]; omega⟩, cons_ok (cals_cons (cal_ok Tryz.func37 (by kernel_rfl) rfl (valid25_27 hB)) (cals_nil)), by kernel_rfl⟩
def cMulT : Con := fun l os => match l, os with
  | [.z .str a, .z .str b], [] => some (Short a ∧ Short b, [.z .str (resS (chkAll [a, b]) (numI a * numI b)), .z (.int .i64) (resE (chkAll [a, b]) (numI a * numI b))], [])
  | _, _ => none

theorem valid11 {B : Base} (hB : Tabs B) : Valid B Tryz.prog 14 cMulT := by
  refine valid_of_J (T := tab11 B) (good11 hB).tab Tryz.func14 rfl rfl rfl ?_
  intro args os C rs os' hc hC
  unfold cMulT at hc
  split at hc
  case h_2 => cases hc
  rename_i a b
  cases hc
  refine ⟨by simp only [List.length_cons, List.length_nil, tab11]; omega, rfl, ?_⟩
  intro X hP hT hr
  have hG : MGood X.P X.T := by rw [hP, hT]; exact good11 hB
  unfold tab11 at hT
  have hX := @cApp27.eq_1
  simp only [Tryz.f14, argEnv, ioList, ioB]
  refine r_seq ?_
  refine q_region hG ?_ ?_ -- R0
  · trivial
  refine k_seq ?_
  refine r_seq ?_
  refine q_region hG ?_ ?_ -- R1
  · try simp only [and_true, true_and]
    exact hC
  refine k_seq ?_
  refine r_ret ?_
  refine ⟨[], ?_⟩
  simp only [hT, tab11, mr0, mr1, mr2, Nat.reduceLT, Nat.reduceEqDiff, Nat.reduceAdd, Nat.reduceMul, Nat.reduceSub, Nat.reduceLeDiff, Nat.reduceBEq, Nat.reduceBNe, reduceIte, reduceDIte, reduceCtorEq]
  skip

def tab13 (B : Base) : Tab := { types := [(9, .str)], elems := [], cons := [(37, cApp29)], hint := [], N := 11, base := B }
theorem good13 {B : Base} (hB : Tabs B) : MGood Tryz.prog (tab13 B) := ⟨⟨types_cons ty9 (types_nil), elems_nil, by simp only [tab13, ioB]; omega⟩, cons_ok (cals_cons (cal_ok Tryz.func37 (by kernel_rfl) rfl (valid25_29 hB)) (cals_nil)), by kernel_rfl⟩
def cSubT : Con := fun l os => match l, os with
  | [.z .str a, .z .str b], [] => some (Short a ∧ Short b, [.z .str (resS (chkAll [a, b]) (numI a - numI b)), .z (.int .i64) (resE (chkAll [a, b]) (numI a - numI b))], [])
  | _, _ => none

theorem valid13 {B : Base} (hB : Tabs B) : Valid B Tryz.prog 25 cSubT := by
  refine valid_of_J (T := tab13 B) (good13 hB).tab Tryz.func25 rfl rfl rfl ?_
  intro args os C rs os' hc hC
  unfold cSubT at hc
  split at hc
  case h_2 => cases hc
  rename_i a b
  cases hc
  refine ⟨by simp only [List.length_cons, List.length_nil, tab13]; omega, rfl, ?_⟩
  intro X hP hT hr
  have hG : MGood X.P X.T := by rw [hP, hT]; exact good13 hB
  unfold tab13 at hT
  have hX := @cApp29.eq_1
  simp only [Tryz.f25, argEnv, ioList, ioB]
  refine r_seq ?_
  refine q_region hG ?_ ?_ -- R0
  · trivial
  refine k_seq ?_
  refine r_seq ?_
  refine q_region hG ?_ ?_ -- R1
  · try simp only [and_true, true_and]
    exact hC
  refine k_seq ?_
  refine r_ret ?_
  refine ⟨[], ?_⟩
  simp only [hT, tab13, mr0, mr1, mr2, Nat.reduceLT, Nat.reduceEqDiff, Nat.reduceAdd, Nat.reduceMul, Nat.reduceSub, Nat.reduceLeDiff, Nat.reduceBEq, Nat.reduceBNe, reduceIte, reduceDIte, reduceCtorEq]
  skip

def tab16 (B : Base) : Tab := { types := [(9, .str)], elems := [], cons := [(37, cApp35)], hint := [], N := 11, base := B }
theorem good16 {B : Base} (hB : Tabs B) : MGood Tryz.prog (tab16 B) := ⟨⟨types_cons ty9 (types_nil), elems_nil, by simp only [tab16, ioB]; omega⟩, cons_ok (cals_cons (cal_ok Tryz.func37 (by kernel_rfl) rfl (valid25_35 hB)) (cals_nil)), by kernel_rfl⟩
def cGcdT : Con := fun l os => match l, os with
  | [.z .str a, .z .str b], [] => some (Short a ∧ Short b, [.z .str (resS (chkAll [a, b]) (gcdI (numI a) (numI b))), .z (.int .i64) (resE (chkAll [a, b]) (gcdI (numI a) (numI b)))], [])
  | _, _ => none

theorem valid16 {B : Base} (hB : Tabs B) : Valid B Tryz.prog 16 cGcdT := by
  refine valid_of_J (T := tab16 B) (good16 hB).tab Tryz.func16 rfl rfl rfl ?_
  intro args os C rs os' hc hC
  unfold cGcdT at hc
  split at hc
  case h_2 => cases hc
  rename_i a b
  cases hc
  refine ⟨by simp only [List.length_cons, List.length_nil, tab16]; omega, rfl, ?_⟩
  intro X hP hT hr
  have hG : MGood X.P X.T := by rw [hP, hT]; exact good16 hB
  unfold tab16 at hT
  have hX := @cApp35.eq_1
  simp only [Tryz.f16, argEnv, ioList, ioB]
  refine r_seq ?_
  refine q_region hG ?_ ?_ -- R0
  · trivial
  refine k_seq ?_
  refine r_seq ?_
  refine q_region hG ?_ ?_ -- R1
  · try simp only [and_true, true_and]
    exact hC
  refine k_seq ?_
  refine r_ret ?_
  refine ⟨[], ?_⟩
  simp only [hT, tab16, mr0, mr1, mr2, Nat.reduceLT, Nat.reduceEqDiff, Nat.reduceAdd, Nat.reduceMul, Nat.reduceSub, Nat.reduceLeDiff, Nat.reduceBEq, Nat.reduceBNe, reduceIte, reduceDIte, reduceCtorEq]
  skip

end Go.Proofs.YtkgbdpmhdplddaaGreatDoor
end

section
/- The functions of the package exact, one after the other: each meets its contract. -/
set_option linter.unusedSimpArgs false
set_option linter.unusedVariables false
set_option maxRecDepth 100000
namespace Go.Proofs.YtkgbdpmhdplddaaGreatDoor
open Go Go.Cm Go.Proofs

def tab304 (B : Base) : Tab := { types := [(3, (.int .i64)), (76, (.slice (.int .i64)))], elems := [], cons := [], hint := [], N := 21, base := B }
theorem good304 {B : Base} (hB : Tabs B) : MGood Tryz.prog (tab304 B) := ⟨⟨types_cons ty3 (types_cons ty76 (types_nil)), elems_nil, by simp only [tab304, ioB]; omega⟩, cons_nil rfl, by kernel_rfl⟩
def cRCut : Con := fun l os => match l, os with
  | [.z (.slice (.int .i64)) d], [] => some (D.Lim d ∧ d.length < CAP, [.z (.slice (.int .i64)) (D.limbs (D.valL d).toNat)], [])
  | _, _ => none

theorem valid304 {B : Base} (hB : Tabs B) : Valid B Tryz.prog 74 cRCut := by
  refine valid_of_J (T := tab304 B) (good304 hB).tab Tryz.func74 rfl rfl rfl ?_
  intro args os C rs os' hc hC
  unfold cRCut at hc
  split at hc
  case h_2 => cases hc
  rename_i d
  cases hc
  refine ⟨by simp only [List.length_cons, List.length_nil, tab304]; omega, rfl, ?_⟩
  intro X hP hT hr
  have hG : MGood X.P X.T := by rw [hP, hT]; exact good304 hB
  unfold tab304 at hT
  have hX := Bool.not_true
  simp only [Tryz.f74, argEnv, ioList, ioB]
  refine r_seq ?_
  refine q_region hG ?_ ?_ -- R0
  · trivial
  refine k_seq ?_
  refine r_seq ?_
  refine j_block ?_
  refine j_loop (fun (z : List Int) => (⟨[(0, .l (.z (.slice (.int .i64)) z))], []⟩ : AState)) (fun z => D.Lim z ∧ D.valL z = D.valL d ∧ z.length ≤ d.length) (fun z => z.length) d ?_ ?_ ?_
  · simp only [ml0, ml1, Nat.reduceLT, Nat.reduceEqDiff, Nat.reduceAdd, Nat.reduceMul, Nat.reduceSub, Nat.reduceLeDiff, Nat.reduceBEq, Nat.reduceBNe, reduceIte, reduceDIte, reduceCtorEq]
  · exact ⟨hC.1, rfl, Nat.le_refl _⟩
  · rintro z ⟨g1, g2, g3⟩
    try dsimp only at g1 g2 g3
    have h4 : z.length < 1000000000000 := Nat.lt_of_le_of_lt g3 hC.2
    refine r_seq ?_
    refine r_seq ?_
    refine q_region hG ?_ ?_ -- R1
    · try simp only [and_true, true_and]
      exact ⟨id, id, fun h => ⟨h, by simp only [decide_eq_true_eq] at h; rw [wi (by omega) (by omega)]; omega⟩, id⟩
    refine k_seq ?_
    refine q_cond ?_ ?_
    · intro hb0
      try simp only [decide_eq_true_eq, decide_eq_false_iff_not, beq_iff_eq, bne_iff_ne, Bool.not_eq_true', Bool.and_eq_true] at hb0
      refine r_skip ?_
      refine k_seq ?_
      refine j_block ?_
      refine q_region hG ?_ ?_ -- R2
      · try simp only [and_true, true_and]
        rw [wi (by omega) (by omega)]; omega
      refine k_block ?_
      show ∃ z, _
      simp only [ml0, ml1, Nat.reduceLT, Nat.reduceEqDiff, Nat.reduceAdd, Nat.reduceMul, Nat.reduceSub, Nat.reduceLeDiff, Nat.reduceBEq, Nat.reduceBNe, reduceIte, reduceDIte, reduceCtorEq]
      exact D.whole_round g1 g2 g3 hb0.1 h4 hb0.2
    · intro hb0
      try simp only [decide_eq_true_eq, decide_eq_false_iff_not, beq_eq_false_iff_ne, bne_eq_false_iff_eq, Bool.not_eq_false', Bool.and_eq_false_imp] at hb0
      refine r_exit ?_
      refine k_seq_exit ?_
      refine k_round_exit ?_
      refine k_block_exit ?_
      refine k_seq ?_
      refine r_seq ?_
      refine q_region hG ?_ ?_ -- R3
      · trivial
      refine k_seq ?_
      refine r_ret ?_
      refine ⟨[], ?_⟩
      simp only [hT, tab304, mr0, mr1, mr2, Nat.reduceLT, Nat.reduceEqDiff, Nat.reduceAdd, Nat.reduceMul, Nat.reduceSub, Nat.reduceLeDiff, Nat.reduceBEq, Nat.reduceBNe, reduceIte, reduceDIte, reduceCtorEq]
      refine D.cut_fin g1 g2 fun hz h0 => ?_
      have := hb0 (by simp; omega)
      rw [wi (by omega) (by omega), D.last_eq hz] at this
      exact this h0

def tab306 (B : Base) : Tab := { types := [(3, (.int .i64)), (76, (.slice (.int .i64)))], elems := [], cons := [], hint := [], N := 41, base := B }
theorem good306 {B : Base} (hB : Tabs B) : MGood Tryz.prog (tab306 B) := ⟨⟨types_cons ty3 (types_cons ty76 (types_nil)), elems_nil, by simp only [tab306, ioB]; omega⟩, cons_nil rfl, by kernel_rfl⟩
def cRCompare : Con := fun l os => match l, os with
  | [.z (.slice (.int .i64)) m, .z (.slice (.int .i64)) o], [] => some (D.Cano m ∧ D.Cano o ∧ m.length < CAP ∧ o.length < CAP, [.z (.int .i64) (cmpI (D.valL m) (D.valL o))], [])
  | _, _ => none

theorem valid306 {B : Base} (hB : Tabs B) : Valid B Tryz.prog 62 cRCompare := by
  refine valid_of_J (T := tab306 B) (good306 hB).tab Tryz.func62 rfl rfl rfl ?_
  intro args os C rs os' hc hC
  unfold cRCompare at hc
  split at hc
  case h_2 => cases hc
  rename_i m o
  cases hc
  refine ⟨by simp only [List.length_cons, List.length_nil, tab306]; omega, rfl, ?_⟩
  intro X hP hT hr
  have hG : MGood X.P X.T := by rw [hP, hT]; exact good306 hB
  unfold tab306 at hT
  have hX := Bool.not_true
  simp only [Tryz.f62, argEnv, ioList, ioB]
  refine r_seq ?_
  refine q_region hG ?_ ?_ -- R0
  · trivial
  refine k_seq ?_
  refine r_seq ?_
  refine r_seq ?_
  refine q_region hG ?_ ?_ -- R1
  · trivial
  refine k_seq ?_
  refine q_cond ?_ ?_
  · intro hb0
    try simp only [decide_eq_true_eq, decide_eq_false_iff_not, beq_iff_eq, bne_iff_ne, Bool.not_eq_true', Bool.and_eq_true] at hb0
    refine r_seq ?_
    refine r_seq ?_
    refine q_region hG ?_ ?_ -- R2
    · trivial
    refine k_seq ?_
    refine q_cond ?_ ?_
    · intro hb1
      try simp only [decide_eq_true_eq, decide_eq_false_iff_not, beq_iff_eq, bne_iff_ne, Bool.not_eq_true', Bool.and_eq_true] at hb1
      refine r_seq ?_
      refine q_region hG ?_ ?_ -- R3
      · trivial
      refine k_seq ?_
      refine r_ret ?_
      refine k_seq_ret ?_
      refine k_seq_ret ?_
      refine ⟨[], ?_⟩
      simp only [hT, tab306, mr0, mr1, mr2, Nat.reduceLT, Nat.reduceEqDiff, Nat.reduceAdd, Nat.reduceMul, Nat.reduceSub, Nat.reduceLeDiff, Nat.reduceBEq, Nat.reduceBNe, reduceIte, reduceDIte, reduceCtorEq]
      unfold cmpI
      rw [if_pos (D.cmp_len hC.1 hC.2.1 (by omega))]
    · intro hb1
      try simp only [decide_eq_true_eq, decide_eq_false_iff_not, beq_eq_false_iff_ne, bne_eq_false_iff_eq, Bool.not_eq_false', Bool.and_eq_false_imp] at hb1
      refine r_skip ?_
      refine k_seq ?_
      refine r_seq ?_
      refine q_region hG ?_ ?_ -- R4
      · trivial
      refine k_seq ?_
      refine r_ret ?_
      refine k_seq_ret ?_
      refine ⟨[], ?_⟩
      simp only [hT, tab306, mr0, mr1, mr2, Nat.reduceLT, Nat.reduceEqDiff, Nat.reduceAdd, Nat.reduceMul, Nat.reduceSub, Nat.reduceLeDiff, Nat.reduceBEq, Nat.reduceBNe, reduceIte, reduceDIte, reduceCtorEq]
      have := D.cmp_len hC.2.1 hC.1 (by omega)
      unfold cmpI
      rw [if_neg (by omega), if_pos this]
  · intro hb0
    simp only [bne_eq_false_iff_eq] at hb0
    obtain ⟨c1, c2, c3, c4⟩ := hC
    have c3 : List.length m < 1000000000000 := c3
    have hl : List.length m = List.length o := by omega
    refine r_skip ?_
    refine k_seq ?_
    refine r_seq ?_
    refine r_seq ?_
    refine q_region hG ?_ ?_ -- R5
    · trivial
    refine k_seq ?_
    refine j_block ?_
    refine j_loop (fun (z : Nat) => (⟨[(0, .l (.z (.slice (.int .i64)) m)), (1, .l (.z (.slice (.int .i64)) o)), (5, .l (.z (.int .i64) ((z : Int) - 1)))], []⟩ : AState)) (fun z => z ≤ List.length m ∧ List.drop z m = List.drop z o) (fun z => z) (List.length m) ?_ ?_ ?_
    · simp only [ml0, ml1, Nat.reduceLT, Nat.reduceEqDiff, Nat.reduceAdd, Nat.reduceMul, Nat.reduceSub, Nat.reduceLeDiff, Nat.reduceBEq, Nat.reduceBNe, reduceIte, reduceDIte, reduceCtorEq]
      exact wi (by omega) (by omega)
    · exact ⟨Nat.le_refl _, by rw [List.drop_length, List.drop_of_length_le (by omega)]⟩
    · rintro k ⟨g1, g2⟩
      try dsimp only at g1 g2
      refine r_seq ?_
      refine r_seq ?_
      refine q_region hG ?_ ?_ -- R6
      · trivial
      refine k_seq ?_
      refine q_cond ?_ ?_
      · intro hb2
        try simp only [decide_eq_true_eq, decide_eq_false_iff_not, beq_iff_eq, bne_iff_ne, Bool.not_eq_true', Bool.and_eq_true] at hb2
        refine r_skip ?_
        refine k_seq ?_
        refine r_seq ?_
        refine j_block ?_
        refine r_seq ?_
        refine q_draw hG ?_ ?_ -- R8
        · try simp only [and_true, true_and]
          exact ⟨⟨by omega, by omega⟩, by omega, by omega⟩
        refine k_seq ?_
        refine q_cond ?_ ?_
        · intro hb3
          try simp only [decide_eq_true_eq, decide_eq_false_iff_not, beq_iff_eq, bne_iff_ne, Bool.not_eq_true', Bool.and_eq_true] at hb3
          refine r_seq ?_
          refine r_seq ?_
          refine q_draw hG ?_ ?_ -- R9
          · try simp only [and_true, true_and]
            exact ⟨⟨by omega, by omega⟩, by omega, by omega⟩
          refine k_seq ?_
          refine q_cond ?_ ?_
          · intro hb4
            try simp only [decide_eq_true_eq, decide_eq_false_iff_not, beq_iff_eq, bne_iff_ne, Bool.not_eq_true', Bool.and_eq_true] at hb4
            refine r_seq ?_
            refine q_region hG ?_ ?_ -- R10
            · trivial
            refine k_seq ?_
            refine r_ret ?_
            refine k_seq_ret ?_
            refine k_block_ret ?_
            refine k_seq_ret ?_
            refine k_round_ret ?_
            refine k_block_ret ?_
            refine k_seq_ret ?_
            refine ⟨[], ?_⟩
            simp only [hT, tab306, mr0, mr1, mr2, Nat.reduceLT, Nat.reduceEqDiff, Nat.reduceAdd, Nat.reduceMul, Nat.reduceSub, Nat.reduceLeDiff, Nat.reduceBEq, Nat.reduceBNe, reduceIte, reduceDIte, reduceCtorEq]
            obtain ⟨j, rfl⟩ : ∃ j, k = j + 1 := ⟨k - 1, by omega⟩
            have hk : ((j + 1 : Nat) : Int) - 1 = (j : Int) := by omega
            rw [hk] at hb4
            exact (D.cmp_less c1 c2 hl (by omega) g2 hb4).symm
          · intro hb4
            try simp only [decide_eq_true_eq, decide_eq_false_iff_not, beq_eq_false_iff_ne, bne_eq_false_iff_eq, Bool.not_eq_false', Bool.and_eq_false_imp] at hb4
            refine r_skip ?_
            refine k_seq ?_
            refine r_seq ?_
            refine q_region hG ?_ ?_ -- R11
            · trivial
            refine k_seq ?_
            refine r_ret ?_
            refine k_block_ret ?_
            refine k_seq_ret ?_
            refine k_round_ret ?_
            refine k_block_ret ?_
            refine k_seq_ret ?_
            refine ⟨[], ?_⟩
            simp only [hT, tab306, mr0, mr1, mr2, Nat.reduceLT, Nat.reduceEqDiff, Nat.reduceAdd, Nat.reduceMul, Nat.reduceSub, Nat.reduceLeDiff, Nat.reduceBEq, Nat.reduceBNe, reduceIte, reduceDIte, reduceCtorEq]
            obtain ⟨j, rfl⟩ : ∃ j, k = j + 1 := ⟨k - 1, by omega⟩
            have hk : ((j + 1 : Nat) : Int) - 1 = (j : Int) := by omega
            rw [hk] at hb3 hb4
            have hb5 : List.getD o j 0 < List.getD m j 0 := D.gt_of hb4 hb3
            exact (D.cmp_more c1 c2 hl (by omega) g2 hb5).symm
        · intro hb3
          try simp only [decide_eq_true_eq, decide_eq_false_iff_not, beq_eq_false_iff_ne, bne_eq_false_iff_eq, Bool.not_eq_false', Bool.and_eq_false_imp] at hb3
          refine r_skip ?_
          refine k_block ?_
          refine k_seq ?_
          refine q_region hG ?_ ?_ -- R7
          · trivial
          show ∃ z, _
          simp only [ml0, ml1, Nat.reduceLT, Nat.reduceEqDiff, Nat.reduceAdd, Nat.reduceMul, Nat.reduceSub, Nat.reduceLeDiff, Nat.reduceBEq, Nat.reduceBNe, reduceIte, reduceDIte, reduceCtorEq]
          obtain ⟨j, rfl⟩ : ∃ j, k = j + 1 := ⟨k - 1, by omega⟩
          have hk : ((j + 1 : Nat) : Int) - 1 = (j : Int) := by omega
          rw [hk] at hb3 ⊢
          exact ⟨j, wi (by omega) (by omega), by omega, D.drop_step hl (by omega) g2 hb3, by omega⟩
      · intro hb2
        try simp only [decide_eq_true_eq, decide_eq_false_iff_not, beq_eq_false_iff_ne, bne_eq_false_iff_eq, Bool.not_eq_false', Bool.and_eq_false_imp] at hb2
        refine r_exit ?_
        refine k_seq_exit ?_
        refine k_round_exit ?_
        refine k_block_exit ?_
        refine k_seq ?_
        refine r_seq ?_
        refine q_region hG ?_ ?_ -- R12
        · trivial
        refine k_seq ?_
        refine r_ret ?_
        refine ⟨[], ?_⟩
        simp only [hT, tab306, mr0, mr1, mr2, Nat.reduceLT, Nat.reduceEqDiff, Nat.reduceAdd, Nat.reduceMul, Nat.reduceSub, Nat.reduceLeDiff, Nat.reduceBEq, Nat.reduceBNe, reduceIte, reduceDIte, reduceCtorEq]
        have : k = 0 := by omega
        subst this
        simp only [List.drop_zero] at g2
        rw [g2]; simp [cmpI]

end Go.Proofs.YtkgbdpmhdplddaaGreatDoor
end

section
/- The functions of the package exact, one after the other: each meets its contract. -/
set_option linter.unusedSimpArgs false
set_option linter.unusedVariables false
set_option maxRecDepth 100000
namespace Go.Proofs.YtkgbdpmhdplddaaGreatDoor
open Go Go.Cm Go.Proofs

def tab307 (B : Base) : Tab := { types := [(3, (.int .i64)), (76, (.slice (.int .i64)))], elems := [(76, 3)], cons := [], hint := [], N := 54, base := B }
theorem good307 {B : Base} (hB : Tabs B) : MGood Tryz.prog (tab307 B) := ⟨⟨types_cons ty3 (types_cons ty76 (types_nil)), elems_cons (by kernel_rfl) (elems_nil), by simp only [tab307, ioB]; omega⟩, cons_nil rfl, by kernel_rfl⟩
def cRPlus : Con := fun l os => match l, os with
  | [.z (.slice (.int .i64)) m, .z (.slice (.int .i64)) o], [] => some (D.Cano m ∧ D.Cano o ∧ m.length < CAP ∧ o.length < CAP, [.z (.slice (.int .i64)) (D.limbs (D.valL m + D.valL o).toNat)], [])
  | _, _ => none

theorem valid307 {B : Base} (hB : Tabs B) : Valid B Tryz.prog 63 cRPlus := by
  refine valid_of_J (T := tab307 B) (good307 hB).tab Tryz.func63 rfl rfl rfl ?_
  intro args os C rs os' hc hC
  unfold cRPlus at hc
  split at hc
  case h_2 => cases hc
  rename_i m o
  cases hc
  refine ⟨by simp only [List.length_cons, List.length_nil, tab307]; omega, rfl, ?_⟩
  intro X hP hT hr
  have hG : MGood X.P X.T := by rw [hP, hT]; exact good307 hB
  unfold tab307 at hT
  have hX := Bool.not_true
  simp only [Tryz.f63, argEnv, ioList, ioB]
  refine r_seq ?_
  refine q_region hG ?_ ?_ -- R0
  · trivial
  refine k_seq ?_
  refine r_seq ?_
  refine q_region hG ?_ ?_ -- R1
  · trivial
  refine k_seq ?_
  refine r_seq ?_
  refine q_region hG ?_ ?_ -- R2
  · trivial
  refine k_seq ?_
  refine r_seq ?_
  refine r_seq ?_
  refine q_region hG ?_ ?_ -- R3
  · trivial
  refine k_seq ?_
  refine j_block ?_
  refine j_loop (fun (z : Nat × Int × List Int) => (⟨[(0, .l (.z (.slice (.int .i64)) m)), (1, .l (.z (.slice (.int .i64)) o)), (5, .l (.ownS 50)), (6, .l (.z (.int .i64) z.2.1)), (7, .l (.z (.int .i64) (z.1 : Int)))], [(50, .arr (.int .i64) 3 z.2.2)]⟩ : AState)) (fun z => D.PlusPhi m o z.1 z.2.1 z.2.2) (fun z => 2 * (max (List.length m) (List.length o) - z.1) + z.2.1.toNat) (0, 0, []) ?_ ?_ ?_
  · simp only [ml0, ml1, Nat.reduceLT, Nat.reduceEqDiff, Nat.reduceAdd, Nat.reduceMul, Nat.reduceSub, Nat.reduceLeDiff, Nat.reduceBEq, Nat.reduceBNe, reduceIte, reduceDIte, reduceCtorEq]
    exact ⟨rfl, by unfold ioB; omega⟩
  · exact D.plus_start
  · rintro ⟨k, c, out⟩ hz
    try dsimp only at hz
    obtain ⟨c1, c2, c3, c4⟩ := hC
    have c3 : List.length m < 1000000000000 := c3
    have c4 : List.length o < 1000000000000 := c4
    have hw := D.plus_n c1.1 c2.1 hz
    have hk := hz.hk
    refine r_seq ?_
    refine r_seq ?_
    refine q_region hG ?_ ?_ -- R4
    · try simp only [and_true, true_and]
      (repeat' (first | apply And.intro | intro _)) <;> (try simp only [decide_eq_true_eq, decide_eq_false_iff_not, Bool.not_eq_true', beq_iff_eq, Int.toNat_natCast] at *) <;> first | assumption | omega | trivial | (simp_all; done) | (simp_all; omega)
    refine k_seq ?_
    refine q_cond ?_ ?_
    · intro hb0
      simp only [Bool.or_eq_true, decide_eq_true_eq] at hb0
      have hkk : k < List.length m ∨ k < List.length o ∨ (0 : Int) < c := by omega
      have hks := hz.hs
      have hkM : k ≤ max (List.length m) (List.length o) := D.plus_k hz (by omega)
      have hb0 : (k < List.length m ∨ k < List.length o) ∨ (0 : Int) < c := by omega
      refine r_skip ?_
      refine k_seq ?_
      refine r_seq ?_
      refine j_block ?_
      refine r_seq ?_
      refine q_region hG ?_ ?_ -- R6
      · trivial
      refine k_seq ?_
      refine r_cut (fun (z : Int) => (⟨[(0, .l (.z (.slice (.int .i64)) m)), (1, .l (.z (.slice (.int .i64)) o)), (5, .l (.ownS 50)), (6, .l (.z (.int .i64) c)), (7, .l (.z (.int .i64) (k : Int))), (8, .l (.z (.int .i64) z))], [(50, .arr (.int .i64) 3 out)]⟩ : AState)) (fun z => z = c + m.getD k 0) ?_ ?_
      · refine r_seq ?_
        refine q_region hG ?_ ?_ -- R7
        · trivial
        refine k_seq ?_
        refine q_cond ?_ ?_
        · intro hb1
          try simp only [decide_eq_true_eq, decide_eq_false_iff_not, beq_iff_eq, bne_iff_ne, Bool.not_eq_true', Bool.and_eq_true] at hb1
          refine q_region hG ?_ ?_ -- R8
          · try simp only [and_true, true_and]
            exact ⟨by omega, by omega⟩
          show ∃ z, _
          simp only [ml0, ml1, Nat.reduceLT, Nat.reduceEqDiff, Nat.reduceAdd, Nat.reduceMul, Nat.reduceSub, Nat.reduceLeDiff, Nat.reduceBEq, Nat.reduceBNe, reduceIte, reduceDIte, reduceCtorEq]
          first | exact hw.1 | (rw [D.getD_none (by omega)]; exact (Int.add_zero _).symm)
        · intro hb1
          try simp only [decide_eq_true_eq, decide_eq_false_iff_not, beq_eq_false_iff_ne, bne_eq_false_iff_eq, Bool.not_eq_false', Bool.and_eq_false_imp] at hb1
          refine r_skip ?_
          show ∃ z, _
          simp only [ml0, ml1, Nat.reduceLT, Nat.reduceEqDiff, Nat.reduceAdd, Nat.reduceMul, Nat.reduceSub, Nat.reduceLeDiff, Nat.reduceBEq, Nat.reduceBNe, reduceIte, reduceDIte, reduceCtorEq]
          first | exact hw.1 | (rw [D.getD_none (by omega)]; exact (Int.add_zero _).symm)
      rintro n1 hn1
      try dsimp only at hn1
      refine r_cut (fun (z : Int) => (⟨[(0, .l (.z (.slice (.int .i64)) m)), (1, .l (.z (.slice (.int .i64)) o)), (5, .l (.ownS 50)), (6, .l (.z (.int .i64) c)), (7, .l (.z (.int .i64) (k : Int))), (8, .l (.z (.int .i64) z))], [(50, .arr (.int .i64) 3 out)]⟩ : AState)) (fun z => z = c + m.getD k 0 + o.getD k 0) ?_ ?_
      · refine r_seq ?_
        refine q_region hG ?_ ?_ -- R9
        · trivial
        refine k_seq ?_
        refine q_cond ?_ ?_
        · intro hb2
          try simp only [decide_eq_true_eq, decide_eq_false_iff_not, beq_iff_eq, bne_iff_ne, Bool.not_eq_true', Bool.and_eq_true] at hb2
          refine q_region hG ?_ ?_ -- R10
          · try simp only [and_true, true_and]
            exact ⟨by omega, by omega⟩
          show ∃ z, _
          simp only [ml0, ml1, Nat.reduceLT, Nat.reduceEqDiff, Nat.reduceAdd, Nat.reduceMul, Nat.reduceSub, Nat.reduceLeDiff, Nat.reduceBEq, Nat.reduceBNe, reduceIte, reduceDIte, reduceCtorEq]
          subst hn1
          first | exact hw.2.1 | (rw [D.getD_none (l := o) (by omega)]; exact (Int.add_zero _).symm)
        · intro hb2
          try simp only [decide_eq_true_eq, decide_eq_false_iff_not, beq_eq_false_iff_ne, bne_eq_false_iff_eq, Bool.not_eq_false', Bool.and_eq_false_imp] at hb2
          refine r_skip ?_
          show ∃ z, _
          simp only [ml0, ml1, Nat.reduceLT, Nat.reduceEqDiff, Nat.reduceAdd, Nat.reduceMul, Nat.reduceSub, Nat.reduceLeDiff, Nat.reduceBEq, Nat.reduceBNe, reduceIte, reduceDIte, reduceCtorEq]
          subst hn1
          first | exact hw.2.1 | (rw [D.getD_none (l := o) (by omega)]; exact (Int.add_zero _).symm)
      rintro n hn
      try dsimp only at hn
      refine r_seq ?_
      refine q_region hG ?_ ?_ -- R11
      · try simp only [and_true, true_and]
        exact ⟨by decide, by unfold Cm.Roomy; omega⟩
      refine k_seq ?_
      refine q_region hG ?_ ?_ -- R12
      · try simp only [and_true, true_and]
        decide
      refine k_block ?_
      refine k_seq ?_
      refine q_region hG ?_ ?_ -- R5
      · trivial
      show ∃ z, _
      simp only [ml0, ml1, Nat.reduceLT, Nat.reduceEqDiff, Nat.reduceAdd, Nat.reduceMul, Nat.reduceSub, Nat.reduceLeDiff, Nat.reduceBEq, Nat.reduceBNe, reduceIte, reduceDIte, reduceCtorEq]
      obtain ⟨q1, q2⟩ := D.plus_next c1.1 c2.1 hz hb0 hn
      exact ⟨k + 1, by rw [wi (by omega) (by omega)]; simp, q1, q2⟩
    · intro hb0
      simp only [Bool.or_eq_false_iff, decide_eq_false_iff_not] at hb0
      refine r_exit ?_
      refine k_seq_exit ?_
      refine k_round_exit ?_
      refine k_block_exit ?_
      refine k_seq ?_
      refine r_seq ?_
      refine q_region hG ?_ ?_ -- R13
      · trivial
      refine k_seq ?_
      refine r_ret ?_
      refine ⟨[50], ?_⟩
      simp only [hT, tab307, mr0, mr1, mr2, Nat.reduceLT, Nat.reduceEqDiff, Nat.reduceAdd, Nat.reduceMul, Nat.reduceSub, Nat.reduceLeDiff, Nat.reduceBEq, Nat.reduceBNe, reduceIte, reduceDIte, reduceCtorEq]
      exact D.plus_fin c1 c2 hz (by omega)

def tab308 (B : Base) : Tab := { types := [(3, (.int .i64)), (76, (.slice (.int .i64)))], elems := [(76, 3)], cons := [(74, cRCut)], hint := [], N := 41, base := B }
theorem good308 {B : Base} (hB : Tabs B) : MGood Tryz.prog (tab308 B) := ⟨⟨types_cons ty3 (types_cons ty76 (types_nil)), elems_cons (by kernel_rfl) (elems_nil), by simp only [tab308, ioB]; omega⟩, cons_ok (cals_cons (cal_ok Tryz.func74 (by kernel_rfl) rfl (valid304 hB)) (cals_nil)), by kernel_rfl⟩
def cRMinus : Con := fun l os => match l, os with
  | [.z (.slice (.int .i64)) m, .z (.slice (.int .i64)) o], [] => some (D.Cano m ∧ D.Cano o ∧ D.valL o ≤ D.valL m ∧ m.length < CAP, [.z (.slice (.int .i64)) (D.limbs (D.valL m - D.valL o).toNat)], [])
  | _, _ => none

theorem valid308 {B : Base} (hB : Tabs B) : Valid B Tryz.prog 64 cRMinus := by
  refine valid_of_J (T := tab308 B) (good308 hB).tab Tryz.func64 rfl rfl rfl ?_
  intro args os C rs os' hc hC
  unfold cRMinus at hc
  split at hc
  case h_2 => cases hc
  rename_i m o
  cases hc
  refine ⟨by simp only [List.length_cons, List.length_nil, tab308]; omega, rfl, ?_⟩
  intro X hP hT hr
  have hG : MGood X.P X.T := by rw [hP, hT]; exact good308 hB
  unfold tab308 at hT
  have hX := @cRCut.eq_1
  simp only [Tryz.f64, argEnv, ioList, ioB]
  refine r_seq ?_
  refine q_region hG ?_ ?_ -- R0
  · trivial
  refine k_seq ?_
  refine r_seq ?_
  refine q_region hG ?_ ?_ -- R1
  · trivial
  refine k_seq ?_
  refine r_seq ?_
  refine q_region hG ?_ ?_ -- R2
  · trivial
  refine k_seq ?_
  refine r_seq ?_
  refine r_seq ?_
  refine q_region hG ?_ ?_ -- R3
  · trivial
  refine k_seq ?_
  refine j_block ?_
  refine j_loop (fun (z : Nat × Int × List Int) => (⟨[(0, .l (.z (.slice (.int .i64)) m)), (1, .l (.z (.slice (.int .i64)) o)), (5, .l (.ownS 38)), (6, .l (.z (.int .i64) z.2.1)), (7, .l (.z (.int .i64) (z.1 : Int)))], [(38, .arr (.int .i64) 3 z.2.2)]⟩ : AState)) (fun z => D.MinusPhi m o z.1 z.2.1 z.2.2) (fun z => List.length m - z.1) (0, 0, []) ?_ ?_ ?_
  · simp only [ml0, ml1, Nat.reduceLT, Nat.reduceEqDiff, Nat.reduceAdd, Nat.reduceMul, Nat.reduceSub, Nat.reduceLeDiff, Nat.reduceBEq, Nat.reduceBNe, reduceIte, reduceDIte, reduceCtorEq]
    exact ⟨rfl, by unfold ioB; omega⟩
  · exact D.minus_start
  · rintro ⟨k, b, out⟩ hz
    try dsimp only at hz
    obtain ⟨c1, c2, c3, c4⟩ := hC
    have c4 : List.length m < 1000000000000 := c4
    have hw := D.minus_w c1.1 c2.1 hz
    have hkm := hz.hkm
    have hk := hz.hk
    refine r_seq ?_
    refine r_seq ?_
    refine q_region hG ?_ ?_ -- R4
    · trivial
    refine k_seq ?_
    refine q_cond ?_ ?_
    · intro hb0
      try simp only [decide_eq_true_eq, decide_eq_false_iff_not, beq_iff_eq, bne_iff_ne, Bool.not_eq_true', Bool.and_eq_true] at hb0
      refine r_skip ?_
      refine k_seq ?_
      refine r_seq ?_
      refine j_block ?_
      refine r_seq ?_
      refine q_region hG ?_ ?_ -- R6
      · try simp only [and_true, true_and]
        exact ⟨by omega, by omega⟩
      refine k_seq ?_
      refine r_cut (fun (z : Int) => (⟨[(0, .l (.z (.slice (.int .i64)) m)), (1, .l (.z (.slice (.int .i64)) o)), (5, .l (.ownS 38)), (6, .l (.z (.int .i64) b)), (7, .l (.z (.int .i64) (k : Int))), (8, .l (.z (.int .i64) z))], [(38, .arr (.int .i64) 3 out)]⟩ : AState)) (fun z => z = m.getD k 0 - b - o.getD k 0) ?_ ?_
      · refine r_seq ?_
        refine q_region hG ?_ ?_ -- R7
        · trivial
        refine k_seq ?_
        refine q_cond ?_ ?_
        · intro hb1
          try simp only [decide_eq_true_eq, decide_eq_false_iff_not, beq_iff_eq, bne_iff_ne, Bool.not_eq_true', Bool.and_eq_true] at hb1
          refine q_region hG ?_ ?_ -- R8
          · try simp only [and_true, true_and]
            exact ⟨by omega, by omega⟩
          show ∃ z, _
          simp only [ml0, ml1, Nat.reduceLT, Nat.reduceEqDiff, Nat.reduceAdd, Nat.reduceMul, Nat.reduceSub, Nat.reduceLeDiff, Nat.reduceBEq, Nat.reduceBNe, reduceIte, reduceDIte, reduceCtorEq]
          first | (rw [D.nth64, hw.1]; exact hw.2.1) | (rw [D.nth64, hw.1, D.getD_none (l := o) (by omega)]; exact (Int.sub_zero _).symm)
        · intro hb1
          try simp only [decide_eq_true_eq, decide_eq_false_iff_not, beq_eq_false_iff_ne, bne_eq_false_iff_eq, Bool.not_eq_false', Bool.and_eq_false_imp] at hb1
          refine r_skip ?_
          show ∃ z, _
          simp only [ml0, ml1, Nat.reduceLT, Nat.reduceEqDiff, Nat.reduceAdd, Nat.reduceMul, Nat.reduceSub, Nat.reduceLeDiff, Nat.reduceBEq, Nat.reduceBNe, reduceIte, reduceDIte, reduceCtorEq]
          first | (rw [D.nth64, hw.1]; exact hw.2.1) | (rw [D.nth64, hw.1, D.getD_none (l := o) (by omega)]; exact (Int.sub_zero _).symm)
      rintro n hn
      try dsimp only at hn
      refine r_seq ?_
      refine q_region hG ?_ ?_ -- R9
      · trivial
      refine k_seq ?_
      refine r_cut (fun (z : Unit) => (⟨[(0, .l (.z (.slice (.int .i64)) m)), (1, .l (.z (.slice (.int .i64)) o)), (5, .l (.ownS 38)), (6, .l (.z (.int .i64) (D.borrowed n))), (7, .l (.z (.int .i64) (k : Int))), (8, .l (.z (.int .i64) (n + 10000 * D.borrowed n)))], [(38, .arr (.int .i64) 3 out)]⟩ : AState)) (fun z => True) ?_ ?_
      · refine r_seq ?_
        refine q_region hG ?_ ?_ -- R10
        · trivial
        refine k_seq ?_
        refine q_cond ?_ ?_
        · intro hb2
          try simp only [decide_eq_true_eq, decide_eq_false_iff_not, beq_iff_eq, bne_iff_ne, Bool.not_eq_true', Bool.and_eq_true] at hb2
          refine r_seq ?_
          refine q_region hG ?_ ?_ -- R11
          · trivial
          refine k_seq ?_
          refine q_region hG ?_ ?_ -- R12
          · trivial
          show ∃ z, _
          simp only [ml0, ml1, Nat.reduceLT, Nat.reduceEqDiff, Nat.reduceAdd, Nat.reduceMul, Nat.reduceSub, Nat.reduceLeDiff, Nat.reduceBEq, Nat.reduceBNe, reduceIte, reduceDIte, reduceCtorEq]
          first | exact D.borrow_t hb2 (by rw [hn]; exact hw.2.2) | exact D.borrow_f hb2
        · intro hb2
          try simp only [decide_eq_true_eq, decide_eq_false_iff_not, beq_eq_false_iff_ne, bne_eq_false_iff_eq, Bool.not_eq_false', Bool.and_eq_false_imp] at hb2
          refine r_skip ?_
          show ∃ z, _
          simp only [ml0, ml1, Nat.reduceLT, Nat.reduceEqDiff, Nat.reduceAdd, Nat.reduceMul, Nat.reduceSub, Nat.reduceLeDiff, Nat.reduceBEq, Nat.reduceBNe, reduceIte, reduceDIte, reduceCtorEq]
          first | exact D.borrow_t hb2 (by rw [hn]; exact hw.2.2) | exact D.borrow_f hb2
      rintro ⟨⟩ hu
      try dsimp only at hu
      refine q_region hG ?_ ?_ -- R13
      · try simp only [and_true, true_and]
        unfold Cm.Roomy; omega
      refine k_block ?_
      refine k_seq ?_
      refine q_region hG ?_ ?_ -- R5
      · trivial
      show ∃ z, _
      simp only [ml0, ml1, Nat.reduceLT, Nat.reduceEqDiff, Nat.reduceAdd, Nat.reduceMul, Nat.reduceSub, Nat.reduceLeDiff, Nat.reduceBEq, Nat.reduceBNe, reduceIte, reduceDIte, reduceCtorEq]
      exact ⟨k + 1, by rw [wi (by omega) (by omega)]; simp, D.minus_next c1.1 c2.1 hz (by omega) hn, by omega⟩
    · intro hb0
      try simp only [decide_eq_true_eq, decide_eq_false_iff_not, beq_eq_false_iff_ne, bne_eq_false_iff_eq, Bool.not_eq_false', Bool.and_eq_false_imp] at hb0
      refine r_exit ?_
      refine k_seq_exit ?_
      refine k_round_exit ?_
      refine k_block_exit ?_
      refine k_seq ?_
      refine r_seq ?_
      refine q_region hG ?_ ?_ -- R14
      · try simp only [and_true, true_and]
        exact ⟨hz.hl, by unfold CAP; omega⟩
      refine k_seq ?_
      refine r_ret ?_
      refine ⟨[], ?_⟩
      simp only [hT, tab308, mr0, mr1, mr2, Nat.reduceLT, Nat.reduceEqDiff, Nat.reduceAdd, Nat.reduceMul, Nat.reduceSub, Nat.reduceLeDiff, Nat.reduceBEq, Nat.reduceBNe, reduceIte, reduceDIte, reduceCtorEq]
      rw [(D.minus_fin c1 c2 c3 hz (by omega)).1]

def tab309 (B : Base) : Tab := { types := [(3, (.int .i64)), (76, (.slice (.int .i64)))], elems := [(76, 3)], cons := [(74, cRCut)], hint := [], N := 66, base := B }
theorem good309 {B : Base} (hB : Tabs B) : MGood Tryz.prog (tab309 B) := ⟨⟨types_cons ty3 (types_cons ty76 (types_nil)), elems_cons (by kernel_rfl) (elems_nil), by simp only [tab309, ioB]; omega⟩, cons_ok (cals_cons (cal_ok Tryz.func74 (by kernel_rfl) rfl (valid304 hB)) (cals_nil)), by kernel_rfl⟩
def cRTimes : Con := fun l os => match l, os with
  | [.z (.slice (.int .i64)) x, .z (.slice (.int .i64)) y], [] => some (D.Lim x ∧ D.Wid y ∧ x.length + y.length < CAP, [.z (.slice (.int .i64)) (D.limbs (D.valL x * D.valL y).toNat)], [])
  | _, _ => none

theorem valid309 {B : Base} (hB : Tabs B) : Valid B Tryz.prog 46 cRTimes := by
  refine valid_of_J (T := tab309 B) (good309 hB).tab Tryz.func46 rfl rfl rfl ?_
  intro args os C rs os' hc hC
  unfold cRTimes at hc
  split at hc
  case h_2 => cases hc
  rename_i x y
  cases hc
  refine ⟨by simp only [List.length_cons, List.length_nil, tab309]; omega, rfl, ?_⟩
  intro X hP hT hr
  have hG : MGood X.P X.T := by rw [hP, hT]; exact good309 hB
  unfold tab309 at hT
  have hX := @cRCut.eq_1
  simp only [Tryz.f46, argEnv, ioList, ioB]
  refine r_seq ?_
  refine q_region hG ?_ ?_ -- R0
  · trivial
  refine k_seq ?_
  refine r_seq ?_
  refine q_region hG ?_ ?_ -- R1
  · try simp only [and_true, true_and]
    rw [D.len_wrap hC.2.2]
    have c3 : List.length x + List.length y < 1000000000000 := hC.2.2
    exact ⟨by omega, by omega, by unfold Cm.Roomy; omega⟩
  refine k_seq ?_
  refine r_seq ?_
  refine r_seq ?_
  refine q_region hG ?_ ?_ -- R2
  · trivial
  refine k_seq ?_
  refine j_block ?_
  refine j_loop (fun (z : Nat × List Int) => (⟨[(0, .l (.z (.slice (.int .i64)) x)), (1, .l (.z (.slice (.int .i64)) y)), (5, .l (.ownS 15)), (6, .l (.z (.int .i64) (z.1 : Int)))], [(15, .arr (.int .i64) 3 z.2)]⟩ : AState)) (fun z => D.TimesPhi x y z.1 z.2) (fun z => List.length x - z.1) (0, List.replicate (List.length x + List.length y) 0) ?_ ?_ ?_
  · simp only [ml0, ml1, Nat.reduceLT, Nat.reduceEqDiff, Nat.reduceAdd, Nat.reduceMul, Nat.reduceSub, Nat.reduceLeDiff, Nat.reduceBEq, Nat.reduceBNe, reduceIte, reduceDIte, reduceCtorEq]
    exact ⟨rfl, by rw [D.len_wrap hC.2.2, Int.toNat_natCast]⟩
  · exact D.times_start
  · rintro ⟨i, out⟩ hz
    try dsimp only at hz
    obtain ⟨c1, c2, c3⟩ := hC
    have c3 : List.length x + List.length y < 1000000000000 := c3
    have hix := hz.h1
    have hil := hz.h2
    refine r_seq ?_
    refine r_seq ?_
    refine q_region hG ?_ ?_ -- R3
    · trivial
    refine k_seq ?_
    refine q_cond ?_ ?_
    · intro hb0
      try simp only [decide_eq_true_eq, decide_eq_false_iff_not, beq_iff_eq, bne_iff_ne, Bool.not_eq_true', Bool.and_eq_true] at hb0
      refine r_skip ?_
      refine k_seq ?_
      refine r_seq ?_
      refine j_block ?_
      refine r_seq ?_
      refine q_region hG ?_ ?_ -- R5
      · trivial
      refine k_seq ?_
      refine r_seq ?_
      refine q_region hG ?_ ?_ -- R6
      · trivial
      refine k_seq ?_
      refine j_block ?_
      refine j_loop (fun (z : Nat × Int × List Int) => (⟨[(0, .l (.z (.slice (.int .i64)) x)), (1, .l (.z (.slice (.int .i64)) y)), (5, .l (.ownS 15)), (6, .l (.z (.int .i64) (i : Int))), (7, .l (.z (.int .i64) z.2.1)), (8, .l (.z (.int .i64) (z.1 : Int)))], [(15, .arr (.int .i64) 3 z.2.2)]⟩ : AState)) (fun z => D.RowPhi x y i z.1 z.2.1 z.2.2) (fun z => List.length y + 1 - z.1) (0, 0, out) ?_ ?_ ?_
      · simp only [ml0, ml1, Nat.reduceLT, Nat.reduceEqDiff, Nat.reduceAdd, Nat.reduceMul, Nat.reduceSub, Nat.reduceLeDiff, Nat.reduceBEq, Nat.reduceBNe, reduceIte, reduceDIte, reduceCtorEq]
        rfl
      · exact D.row_start hz
      · rintro ⟨k, c, out2⟩ hk
        try dsimp only at hk
        have hrb := D.row_bound (c1.getD i) (c2.getD k) (hk.h3.getD (i + k)) hk.h4
        have hk1 := hk.h1
        have hk2 := hk.h2
        have hik : IntKind.i64.wrap ((i : Int) + (k : Int)) = ((i + k : Nat) : Int) := by rw [wi (by omega) (by omega)]; omega
        refine r_seq ?_
        refine r_seq ?_
        refine q_region hG ?_ ?_ -- R7
        · try simp only [and_true, true_and]
          (repeat' (first | apply And.intro | intro _)) <;> (try simp only [decide_eq_true_eq, decide_eq_false_iff_not, Bool.not_eq_true', beq_iff_eq, Int.toNat_natCast] at *) <;> first | assumption | omega | trivial | (simp_all; done) | (simp_all; omega)
        refine k_seq ?_
        refine q_cond ?_ ?_
        · intro hb1
          simp only [Bool.or_eq_true, decide_eq_true_eq] at hb1
          have hb1 : k < List.length y ∨ 0 < c := by omega
          have hin := (D.row_next c1 c2 (by omega) hk hb1 rfl).1
          refine r_skip ?_
          refine k_seq ?_
          refine r_seq ?_
          refine j_block ?_
          refine r_cut (fun (z : Unit) => (⟨[(0, .l (.z (.slice (.int .i64)) x)), (1, .l (.z (.slice (.int .i64)) y)), (5, .l (.ownS 15)), (6, .l (.z (.int .i64) (i : Int))), (7, .l (.z (.int .i64) c)), (8, .l (.z (.int .i64) (k : Int))), (9, .l (.z (.int .i64) (out2.getD (i + k) 0 + c)))], [(15, .arr (.int .i64) 3 out2)]⟩ : AState)) (fun z => True) ?_ ?_
          · refine q_region hG ?_ ?_ -- R9
            · try simp only [and_true, true_and]
              rw [hik]; omega
            show ∃ z, _
            simp only [ml0, ml1, Nat.reduceLT, Nat.reduceEqDiff, Nat.reduceAdd, Nat.reduceMul, Nat.reduceSub, Nat.reduceLeDiff, Nat.reduceBEq, Nat.reduceBNe, reduceIte, reduceDIte, reduceCtorEq]
            rw [hik, Int.toNat_natCast]
            exact hrb.1
          rintro ⟨⟩ hu
          try dsimp only at hu
          refine r_cut (fun (z : Int) => (⟨[(0, .l (.z (.slice (.int .i64)) x)), (1, .l (.z (.slice (.int .i64)) y)), (5, .l (.ownS 15)), (6, .l (.z (.int .i64) (i : Int))), (7, .l (.z (.int .i64) c)), (8, .l (.z (.int .i64) (k : Int))), (9, .l (.z (.int .i64) z))], [(15, .arr (.int .i64) 3 out2)]⟩ : AState)) (fun z => z = out2.getD (i + k) 0 + c + x.getD i 0 * y.getD k 0) ?_ ?_
          · refine r_seq ?_
            refine q_region hG ?_ ?_ -- R10
            · trivial
            refine k_seq ?_
            refine q_cond ?_ ?_
            · intro hb2
              try simp only [decide_eq_true_eq, decide_eq_false_iff_not, beq_iff_eq, bne_iff_ne, Bool.not_eq_true', Bool.and_eq_true] at hb2
              refine q_draw hG ?_ ?_ -- R11
              · try simp only [and_true, true_and]
                exact ⟨⟨by omega, by omega⟩, by omega, by omega⟩
              show ∃ z, _
              simp only [ml0, ml1, Nat.reduceLT, Nat.reduceEqDiff, Nat.reduceAdd, Nat.reduceMul, Nat.reduceSub, Nat.reduceLeDiff, Nat.reduceBEq, Nat.reduceBNe, reduceIte, reduceDIte, reduceCtorEq]
              first | (rw [D.nth64, D.nth64, hrb.2.1]; exact hrb.2.2.1) | (rw [D.getD_none (l := y) (by omega), Int.mul_zero]; exact (Int.add_zero _).symm)
            · intro hb2
              try simp only [decide_eq_true_eq, decide_eq_false_iff_not, beq_eq_false_iff_ne, bne_eq_false_iff_eq, Bool.not_eq_false', Bool.and_eq_false_imp] at hb2
              refine r_skip ?_
              show ∃ z, _
              simp only [ml0, ml1, Nat.reduceLT, Nat.reduceEqDiff, Nat.reduceAdd, Nat.reduceMul, Nat.reduceSub, Nat.reduceLeDiff, Nat.reduceBEq, Nat.reduceBNe, reduceIte, reduceDIte, reduceCtorEq]
              first | (rw [D.nth64, D.nth64, hrb.2.1]; exact hrb.2.2.1) | (rw [D.getD_none (l := y) (by omega), Int.mul_zero]; exact (Int.add_zero _).symm)
          rintro n hn
          try dsimp only at hn
          refine r_seq ?_
          refine q_region hG ?_ ?_ -- R12
          · try simp only [and_true, true_and]
            rw [hik]; exact ⟨by decide, by omega⟩
          refine k_seq ?_
          refine q_region hG ?_ ?_ -- R13
          · try simp only [and_true, true_and]
            decide
          refine k_block ?_
          refine k_seq ?_
          refine q_region hG ?_ ?_ -- R8
          · trivial
          show ∃ z, _
          simp only [ml0, ml1, Nat.reduceLT, Nat.reduceEqDiff, Nat.reduceAdd, Nat.reduceMul, Nat.reduceSub, Nat.reduceLeDiff, Nat.reduceBEq, Nat.reduceBNe, reduceIte, reduceDIte, reduceCtorEq]
          obtain ⟨q1, q2⟩ := D.row_next c1 c2 (by omega) hk hb1 hn
          rw [hik, Int.toNat_natCast]
          exact ⟨k + 1, by rw [wi (by omega) (by omega)]; simp, q2, by omega⟩
        · intro hb1
          simp only [Bool.or_eq_false_iff, decide_eq_false_iff_not] at hb1
          refine r_exit ?_
          refine k_seq_exit ?_
          refine k_round_exit ?_
          refine k_block_exit ?_
          refine k_block ?_
          refine k_seq ?_
          refine q_region hG ?_ ?_ -- R4
          · trivial
          show ∃ z, _
          simp only [ml0, ml1, Nat.reduceLT, Nat.reduceEqDiff, Nat.reduceAdd, Nat.reduceMul, Nat.reduceSub, Nat.reduceLeDiff, Nat.reduceBEq, Nat.reduceBNe, reduceIte, reduceDIte, reduceCtorEq]
          exact ⟨i + 1, by rw [wi (by omega) (by omega)]; simp, D.row_end (by omega) hk (by omega), by omega⟩
    · intro hb0
      try simp only [decide_eq_true_eq, decide_eq_false_iff_not, beq_eq_false_iff_ne, bne_eq_false_iff_eq, Bool.not_eq_false', Bool.and_eq_false_imp] at hb0
      refine r_exit ?_
      refine k_seq_exit ?_
      refine k_round_exit ?_
      refine k_block_exit ?_
      refine k_seq ?_
      refine r_seq ?_
      refine q_region hG ?_ ?_ -- R14
      · try simp only [and_true, true_and]
        exact ⟨hz.h3, by unfold CAP; omega⟩
      refine k_seq ?_
      refine r_ret ?_
      refine ⟨[], ?_⟩
      simp only [hT, tab309, mr0, mr1, mr2, Nat.reduceLT, Nat.reduceEqDiff, Nat.reduceAdd, Nat.reduceMul, Nat.reduceSub, Nat.reduceLeDiff, Nat.reduceBEq, Nat.reduceBNe, reduceIte, reduceDIte, reduceCtorEq]
      rw [D.times_fin hz (by omega)]

end Go.Proofs.YtkgbdpmhdplddaaGreatDoor
end

section
/- The functions of the package exact, one after the other: each meets its contract. -/
set_option linter.unusedSimpArgs false
set_option linter.unusedVariables false
set_option maxRecDepth 100000
namespace Go.Proofs.YtkgbdpmhdplddaaGreatDoor
open Go Go.Cm Go.Proofs

def tab311 (B : Base) : Tab := { types := [(5, (.int .u8)), (9, .str)], elems := [], cons := [], hint := [], N := 6, base := B }
theorem good311 {B : Base} (hB : Tabs B) : MGood Tryz.prog (tab311 B) := ⟨⟨types_cons ty5 (types_cons ty9 (types_nil)), elems_nil, by simp only [tab311, ioB]; omega⟩, cons_nil rfl, by kernel_rfl⟩
def cRNegative : Con := fun l os => match l, os with
  | [.z .str s], [] => some (RF s, [.z .bool (decide (numI s < 0))], [])
  | _, _ => none

theorem valid311 {B : Base} (hB : Tabs B) : Valid B Tryz.prog 34 cRNegative := by
  refine valid_of_J (T := tab311 B) (good311 hB).tab Tryz.func34 rfl rfl rfl ?_
  intro args os C rs os' hc hC
  unfold cRNegative at hc
  split at hc
  case h_2 => cases hc
  rename_i s
  cases hc
  refine ⟨by simp only [List.length_cons, List.length_nil, tab311]; omega, rfl, ?_⟩
  intro X hP hT hr
  have hG : MGood X.P X.T := by rw [hP, hT]; exact good311 hB
  unfold tab311 at hT
  have hX := Bool.not_true
  simp only [Tryz.f34, argEnv, ioList, ioB]
  refine r_seq ?_
  refine q_region hG ?_ ?_ -- R0
  · trivial
  refine k_seq ?_
  refine r_seq ?_
  refine q_region hG ?_ ?_ -- R1
  · try simp only [and_true, true_and]
    exact ⟨by omega, form_len hC⟩
  refine k_seq ?_
  refine r_ret ?_
  refine ⟨[], ?_⟩
  simp only [hT, tab311, mr0, mr1, mr2, Nat.reduceLT, Nat.reduceEqDiff, Nat.reduceAdd, Nat.reduceMul, Nat.reduceSub, Nat.reduceLeDiff, Nat.reduceBEq, Nat.reduceBNe, reduceIte, reduceDIte, reduceCtorEq]
  exact form_first hC

def tab301 (B : Base) : Tab := { types := [(3, (.int .i64)), (5, (.int .u8)), (9, .str)], elems := [], cons := [], hint := [], N := 11, base := B }
theorem good301 {B : Base} (hB : Tabs B) : MGood Tryz.prog (tab301 B) := ⟨⟨types_cons ty3 (types_cons ty5 (types_cons ty9 (types_nil))), elems_nil, by simp only [tab301, ioB]; omega⟩, cons_nil rfl, by kernel_rfl⟩
def cRDigits : Con := fun l os => match l, os with
  | [.z .str s], [] => some (RF s ∧ s.length < CAP, [.z (.int .i64) (ndig (numI s))], [])
  | _, _ => none

theorem valid301 {B : Base} (hB : Tabs B) : Valid B Tryz.prog 30 cRDigits := by
  refine valid_of_J (T := tab301 B) (good301 hB).tab Tryz.func30 rfl rfl rfl ?_
  intro args os C rs os' hc hC
  unfold cRDigits at hc
  split at hc
  case h_2 => cases hc
  rename_i s
  cases hc
  refine ⟨by simp only [List.length_cons, List.length_nil, tab301]; omega, rfl, ?_⟩
  intro X hP hT hr
  have hG : MGood X.P X.T := by rw [hP, hT]; exact good301 hB
  unfold tab301 at hT
  have hX := Bool.not_true
  simp only [Tryz.f30, argEnv, ioList, ioB]
  refine r_seq ?_
  refine q_region hG ?_ ?_ -- R0
  · trivial
  refine k_seq ?_
  refine r_seq ?_
  refine r_seq ?_
  refine q_region hG ?_ ?_ -- R1
  · try simp only [and_true, true_and]
    exact ⟨by omega, form_len hC.1⟩
  refine k_seq ?_
  refine q_cond ?_ ?_
  · intro hb0
    try simp only [decide_eq_true_eq, decide_eq_false_iff_not, beq_iff_eq, bne_iff_ne, Bool.not_eq_true', Bool.and_eq_true] at hb0
    refine r_seq ?_
    refine q_region hG ?_ ?_ -- R2
    · trivial
    refine k_seq ?_
    refine r_ret ?_
    refine k_seq_ret ?_
    refine ⟨[], ?_⟩
    simp only [hT, tab301, mr0, mr1, mr2, Nat.reduceLT, Nat.reduceEqDiff, Nat.reduceAdd, Nat.reduceMul, Nat.reduceSub, Nat.reduceLeDiff, Nat.reduceBEq, Nat.reduceBNe, reduceIte, reduceDIte, reduceCtorEq]
    obtain ⟨t1, t2⟩ := trim_neg hC.1 hb0
    have hc : List.length s < 1000000000000 := hC.2
    rw [form_ndig hC.1, wi (by omega) (by omega)]
    show (List.length s : Int) - 1 = ((trimPre s [45]).length : Int)
    omega
  · intro hb0
    try simp only [decide_eq_true_eq, decide_eq_false_iff_not, beq_eq_false_iff_ne, bne_eq_false_iff_eq, Bool.not_eq_false', Bool.and_eq_false_imp] at hb0
    refine r_skip ?_
    refine k_seq ?_
    refine r_seq ?_
    refine q_region hG ?_ ?_ -- R3
    · trivial
    refine k_seq ?_
    refine r_ret ?_
    refine ⟨[], ?_⟩
    simp only [hT, tab301, mr0, mr1, mr2, Nat.reduceLT, Nat.reduceEqDiff, Nat.reduceAdd, Nat.reduceMul, Nat.reduceSub, Nat.reduceLeDiff, Nat.reduceBEq, Nat.reduceBNe, reduceIte, reduceDIte, reduceCtorEq]
    rw [form_ndig hC.1, ← trim_pos hC.1 hb0]

def tab303 (B : Base) : Tab := { types := [(3, (.int .i64)), (5, (.int .u8)), (9, .str), (76, (.slice (.int .i64)))], elems := [(76, 3)], cons := [(74, cRCut)], hint := [], N := 40, base := B }
theorem good303 {B : Base} (hB : Tabs B) : MGood Tryz.prog (tab303 B) := ⟨⟨types_cons ty3 (types_cons ty5 (types_cons ty9 (types_cons ty76 (types_nil)))), elems_cons (by kernel_rfl) (elems_nil), by simp only [tab303, ioB]; omega⟩, cons_ok (cals_cons (cal_ok Tryz.func74 (by kernel_rfl) rfl (valid304 hB)) (cals_nil)), by kernel_rfl⟩
def cRRead : Con := fun l os => match l, os with
  | [.z .str s], [] => some (RF s ∧ s.length < CAP, [.z (.slice (.int .i64)) (D.limbs (numI s).natAbs)], [])
  | _, _ => none

theorem valid303 {B : Base} (hB : Tabs B) : Valid B Tryz.prog 47 cRRead := by
  refine valid_of_J (T := tab303 B) (good303 hB).tab Tryz.func47 rfl rfl rfl ?_
  intro args os C rs os' hc hC
  unfold cRRead at hc
  split at hc
  case h_2 => cases hc
  rename_i s
  cases hc
  refine ⟨by simp only [List.length_cons, List.length_nil, tab303]; omega, rfl, ?_⟩
  intro X hP hT hr
  have hG : MGood X.P X.T := by rw [hP, hT]; exact good303 hB
  unfold tab303 at hT
  have hX := @cRCut.eq_1
  simp only [Tryz.f47, argEnv, ioList, ioB]
  refine r_seq ?_
  refine q_region hG ?_ ?_ -- R0
  · trivial
  refine k_seq ?_
  refine r_cut (fun (z : Unit) => (⟨[(0, .l (.z .str (trimPre s [45])))], []⟩ : AState)) (fun z => True) ?_ ?_
  · refine r_seq ?_
    refine q_region hG ?_ ?_ -- R1
    · try simp only [and_true, true_and]
      exact ⟨by omega, form_len hC.1⟩
    refine k_seq ?_
    refine q_cond ?_ ?_
    · intro hb0
      try simp only [decide_eq_true_eq, decide_eq_false_iff_not, beq_iff_eq, bne_iff_ne, Bool.not_eq_true', Bool.and_eq_true] at hb0
      refine q_region hG ?_ ?_ -- R2
      · try simp only [and_true, true_and]
        have := form_len hC.1
        omega
      show ∃ z, _
      simp only [ml0, ml1, Nat.reduceLT, Nat.reduceEqDiff, Nat.reduceAdd, Nat.reduceMul, Nat.reduceSub, Nat.reduceLeDiff, Nat.reduceBEq, Nat.reduceBNe, reduceIte, reduceDIte, reduceCtorEq]
      first | exact (trim_neg hC.1 hb0).1 | exact trim_pos hC.1 hb0
    · intro hb0
      try simp only [decide_eq_true_eq, decide_eq_false_iff_not, beq_eq_false_iff_ne, bne_eq_false_iff_eq, Bool.not_eq_false', Bool.and_eq_false_imp] at hb0
      refine r_skip ?_
      show ∃ z, _
      simp only [ml0, ml1, Nat.reduceLT, Nat.reduceEqDiff, Nat.reduceAdd, Nat.reduceMul, Nat.reduceSub, Nat.reduceLeDiff, Nat.reduceBEq, Nat.reduceBNe, reduceIte, reduceDIte, reduceCtorEq]
      first | exact (trim_neg hC.1 hb0).1 | exact trim_pos hC.1 hb0
  rintro ⟨⟩ hu
  try dsimp only at hu
  obtain ⟨d1, d2, d3⟩ := form_ok hC.1
  have hl := trim_len s [45]
  have hc : List.length s < 1000000000000 := hC.2
  refine r_seq ?_
  refine q_region hG ?_ ?_ -- R3
  · trivial
  refine k_seq ?_
  refine r_seq ?_
  refine r_seq ?_
  refine q_region hG ?_ ?_ -- R4
  · trivial
  refine k_seq ?_
  refine j_block ?_
  refine j_loop (fun (z : Nat × List Int) => (⟨[(0, .l (.z .str (trimPre s [45]))), (3, .l (.ownS 37)), (4, .l (.z (.int .i64) (((trimPre s [45]).length : Int) - 4 * (z.1 : Int))))], [(37, .arr (.int .i64) 3 z.2)]⟩ : AState)) (fun z => D.ReadPhi (trimPre s [45]) z.1 z.2) (fun z => (trimPre s [45]).length + 4 - 4 * z.1) (0, []) ?_ ?_ ?_
  · simp only [ml0, ml1, Nat.reduceLT, Nat.reduceEqDiff, Nat.reduceAdd, Nat.reduceMul, Nat.reduceSub, Nat.reduceLeDiff, Nat.reduceBEq, Nat.reduceBNe, reduceIte, reduceDIte, reduceCtorEq]
    exact ⟨by show ((trimPre s [45]).length : Int) = ((trimPre s [45]).length : Int) - 4 * ((0 : Nat) : Int); omega, by unfold ioB; omega⟩
  · exact D.read_start
  · rintro ⟨r, out⟩ hz
    try dsimp only at hz
    have hz1 := hz.1
    have hz4 := hz.2.2.2
    refine r_seq ?_
    refine r_seq ?_
    refine q_region hG ?_ ?_ -- R5
    · trivial
    refine k_seq ?_
    refine q_cond ?_ ?_
    · intro hb1
      try simp only [decide_eq_true_eq, decide_eq_false_iff_not, beq_iff_eq, bne_iff_ne, Bool.not_eq_true', Bool.and_eq_true] at hb1
      refine r_skip ?_
      refine k_seq ?_
      refine r_seq ?_
      refine j_block ?_
      refine r_seq ?_
      refine q_region hG ?_ ?_ -- R7
      · trivial
      refine k_seq ?_
      refine r_seq ?_
      refine r_seq ?_
      refine q_region hG ?_ ?_ -- R8
      · trivial
      refine k_seq ?_
      refine j_block ?_
      refine j_loop (fun (z : Nat) => (⟨[(0, .l (.z .str (trimPre s [45]))), (3, .l (.ownS 37)), (4, .l (.z (.int .i64) (((trimPre s [45]).length : Int) - 4 * (r : Int)))), (5, .l (.z (.int .i64) (D.part (trimPre s [45]) ((trimPre s [45]).length - 4 * (r + 1)) z))), (6, .l (.z (.int .i64) (z : Int)))], [(37, .arr (.int .i64) 3 out)]⟩ : AState)) (fun z => (trimPre s [45]).length - 4 * (r + 1) ≤ z ∧ z ≤ (trimPre s [45]).length - 4 * r) (fun z => (trimPre s [45]).length - z) ((trimPre s [45]).length - 4 * (r + 1)) ?_ ?_ ?_
      · simp only [ml0, ml1, Nat.reduceLT, Nat.reduceEqDiff, Nat.reduceAdd, Nat.reduceMul, Nat.reduceSub, Nat.reduceLeDiff, Nat.reduceBEq, Nat.reduceBNe, reduceIte, reduceDIte, reduceCtorEq]
        exact D.read_le0 (by omega) (by omega)
      · omega
      · rintro i hi
        try dsimp only at hi
        refine r_seq ?_
        refine r_seq ?_
        refine q_region hG ?_ ?_ -- R9
        · trivial
        refine k_seq ?_
        refine q_cond ?_ ?_
        · intro hb2
          try simp only [decide_eq_true_eq, decide_eq_false_iff_not, beq_iff_eq, bne_iff_ne, Bool.not_eq_true', Bool.and_eq_true] at hb2
          refine r_skip ?_
          refine k_seq ?_
          refine r_seq ?_
          refine j_block ?_
          refine q_region hG ?_ ?_ -- R11
          · try simp only [and_true, true_and]
            exact ⟨by omega, by omega⟩
          refine k_block ?_
          refine k_seq ?_
          refine q_region hG ?_ ?_ -- R10
          · trivial
          show ∃ z, _
          simp only [ml0, ml1, Nat.reduceLT, Nat.reduceEqDiff, Nat.reduceAdd, Nat.reduceMul, Nat.reduceSub, Nat.reduceLeDiff, Nat.reduceBEq, Nat.reduceBNe, reduceIte, reduceDIte, reduceCtorEq]
          rw [Int.toNat_natCast]
          exact ⟨i + 1, D.part_next d1 (by omega) (by omega) (by omega), by rw [wi (by omega) (by omega)]; simp, by omega, by omega, by omega⟩
        · intro hb2
          try simp only [decide_eq_true_eq, decide_eq_false_iff_not, beq_eq_false_iff_ne, bne_eq_false_iff_eq, Bool.not_eq_false', Bool.and_eq_false_imp] at hb2
          refine r_exit ?_
          refine k_seq_exit ?_
          refine k_round_exit ?_
          refine k_block_exit ?_
          refine k_seq ?_
          refine q_region hG ?_ ?_ -- R12
          · try simp only [and_true, true_and]
            unfold Cm.Roomy; omega
          refine k_block ?_
          refine k_seq ?_
          refine q_region hG ?_ ?_ -- R6
          · trivial
          show ∃ z, _
          simp only [ml0, ml1, Nat.reduceLT, Nat.reduceEqDiff, Nat.reduceAdd, Nat.reduceMul, Nat.reduceSub, Nat.reduceLeDiff, Nat.reduceBEq, Nat.reduceBNe, reduceIte, reduceDIte, reduceCtorEq]
          have hie : i = (trimPre s [45]).length - 4 * r := by omega
          subst hie
          exact ⟨r + 1, by rw [wi (by omega) (by omega)]; show ((trimPre s [45]).length : Int) - 4 * (r : Int) - 4 = ((trimPre s [45]).length : Int) - 4 * ((r + 1 : Nat) : Int); omega, D.read_next d1 hz (by omega), by omega⟩
    · intro hb1
      try simp only [decide_eq_true_eq, decide_eq_false_iff_not, beq_eq_false_iff_ne, bne_eq_false_iff_eq, Bool.not_eq_false', Bool.and_eq_false_imp] at hb1
      refine r_exit ?_
      refine k_seq_exit ?_
      refine k_round_exit ?_
      refine k_block_exit ?_
      refine k_seq ?_
      refine r_seq ?_
      refine q_region hG ?_ ?_ -- R13
      · try simp only [and_true, true_and]
        exact ⟨hz.2.1, by unfold CAP; omega⟩
      refine k_seq ?_
      refine r_ret ?_
      refine ⟨[], ?_⟩
      simp only [hT, tab303, mr0, mr1, mr2, Nat.reduceLT, Nat.reduceEqDiff, Nat.reduceAdd, Nat.reduceMul, Nat.reduceSub, Nat.reduceLeDiff, Nat.reduceBEq, Nat.reduceBNe, reduceIte, reduceDIte, reduceCtorEq]
      exact D.valL_limbs hz (by omega)

end Go.Proofs.YtkgbdpmhdplddaaGreatDoor
end

section
/- The functions of the package exact, one after the other: each meets its contract. -/
set_option linter.unusedSimpArgs false
set_option linter.unusedVariables false
set_option maxRecDepth 100000
namespace Go.Proofs.YtkgbdpmhdplddaaGreatDoor
open Go Go.Cm Go.Proofs

def tab305 (B : Base) : Tab := { types := [(3, (.int .i64)), (5, (.int .u8)), (9, .str), (22, (.slice (.int .u8))), (76, (.slice (.int .i64)))], elems := [(22, 5)], cons := [], hint := [], N := 49, base := B }
theorem good305 {B : Base} (hB : Tabs B) : MGood Tryz.prog (tab305 B) := ⟨⟨types_cons ty3 (types_cons ty5 (types_cons ty9 (types_cons ty22 (types_cons ty76 (types_nil))))), elems_cons (by kernel_rfl) (elems_nil), by simp only [tab305, ioB]; omega⟩, cons_nil rfl, by kernel_rfl⟩
def cRWrite : Con := fun l os => match l, os with
  | [.z .bool neg, .z (.slice (.int .i64)) d], [] => some (D.Cano d ∧ 4 * d.length < CAP, [.z .str (Lib.itoa (if neg = true then - D.valL d else D.valL d))], [])
  | _, _ => none

theorem valid305 {B : Base} (hB : Tabs B) : Valid B Tryz.prog 45 cRWrite := by
  refine valid_of_J (T := tab305 B) (good305 hB).tab Tryz.func45 rfl rfl rfl ?_
  intro args os C rs os' hc hC
  unfold cRWrite at hc
  split at hc
  case h_2 => cases hc
  rename_i neg d
  cases hc
  refine ⟨by simp only [List.length_cons, List.length_nil, tab305]; omega, rfl, ?_⟩
  intro X hP hT hr
  have hG : MGood X.P X.T := by rw [hP, hT]; exact good305 hB
  unfold tab305 at hT
  have hX := Bool.not_true
  simp only [Tryz.f45, argEnv, ioList, ioB]
  refine r_seq ?_
  refine q_region hG ?_ ?_ -- R0
  · trivial
  refine k_seq ?_
  refine r_seq ?_
  refine r_seq ?_
  refine q_region hG ?_ ?_ -- R1
  · trivial
  refine k_seq ?_
  refine q_cond ?_ ?_
  · intro hb0
    try simp only [decide_eq_true_eq, decide_eq_false_iff_not, beq_iff_eq, bne_iff_ne, Bool.not_eq_true', Bool.and_eq_true] at hb0
    refine r_seq ?_
    refine q_region hG ?_ ?_ -- R2
    · trivial
    refine k_seq ?_
    refine r_ret ?_
    refine k_seq_ret ?_
    refine ⟨[], ?_⟩
    simp only [hT, tab305, mr0, mr1, mr2, Nat.reduceLT, Nat.reduceEqDiff, Nat.reduceAdd, Nat.reduceMul, Nat.reduceSub, Nat.reduceLeDiff, Nat.reduceBEq, Nat.reduceBNe, reduceIte, reduceDIte, reduceCtorEq]
    exact D.write_nil hb0
  · intro hb0
    simp only [beq_eq_false_iff_ne, ne_eq] at hb0
    have hne : d ≠ [] := by intro e; subst e; exact hb0 rfl
    obtain ⟨c1, c2⟩ := hC
    have c2 : 4 * List.length d < 1000000000000 := c2
    have hbg : 4000000000001 ≤ maxLen := by decide
    refine r_skip ?_
    refine k_seq ?_
    refine r_seq ?_
    refine q_region hG ?_ ?_ -- R3
    · trivial
    refine k_seq ?_
    refine r_seq ?_
    refine r_seq ?_
    refine q_region hG ?_ ?_ -- R4
    · trivial
    refine k_seq ?_
    refine j_block ?_
    refine j_loop (fun (z : Nat × List Int) => (⟨[(0, .l (.z .bool neg)), (1, .l (.z (.slice (.int .i64)) d)), (5, .l (.ownS 42)), (6, .l (.z (.int .i64) ((z.1 : Int) - 1)))], [(42, .arr (.int .u8) 5 z.2)]⟩ : AState)) (fun z => z.1 ≤ List.length d ∧ z.2 = (D.dd (D.valL (List.drop z.1 d)).toNat).map fun b => (b.toNat : Int)) (fun z => z.1) (List.length d, []) ?_ ?_ ?_
    · simp only [ml0, ml1, Nat.reduceLT, Nat.reduceEqDiff, Nat.reduceAdd, Nat.reduceMul, Nat.reduceSub, Nat.reduceLeDiff, Nat.reduceBEq, Nat.reduceBNe, reduceIte, reduceDIte, reduceCtorEq]
      exact ⟨wi (by omega) (by omega), by unfold ioB; omega⟩
    · exact D.write_phi0 d
    · rintro ⟨k, out⟩ hz
      try dsimp only at hz
      have hz1 := hz.1
      refine r_seq ?_
      refine r_seq ?_
      refine q_region hG ?_ ?_ -- R5
      · trivial
      refine k_seq ?_
      refine q_cond ?_ ?_
      · intro hb1
        try simp only [decide_eq_true_eq] at hb1
        obtain ⟨i, rfl⟩ : ∃ i, k = i + 1 := ⟨k - 1, by omega⟩
        have ei : ((i + 1 : Nat) : Int) - 1 = (i : Int) := by omega
        rw [ei]
        refine r_skip ?_
        refine k_seq ?_
        refine r_seq ?_
        refine j_block ?_
        refine r_seq ?_
        refine q_region hG ?_ ?_ -- R7
        · trivial
        refine k_seq ?_
        refine j_block ?_
        refine j_loop (fun (z : Nat × List Int) => (⟨[(0, .l (.z .bool neg)), (1, .l (.z (.slice (.int .i64)) d)), (5, .l (.ownS 42)), (6, .l (.z (.int .i64) (i : Int))), (7, .l (.z (.int .i64) (D.unit z.1)))], [(42, .arr (.int .u8) 5 z.2)]⟩ : AState)) (fun z => D.WritePhi d i z.1 z.2) (fun z => 4 - z.1) (0, out) ?_ ?_ ?_
        · simp only [ml0, ml1, Nat.reduceLT, Nat.reduceEqDiff, Nat.reduceAdd, Nat.reduceMul, Nat.reduceSub, Nat.reduceLeDiff, Nat.reduceBEq, Nat.reduceBNe, reduceIte, reduceDIte, reduceCtorEq]
          decide
        · exact D.write_start c1.1 hz.2
        · rintro ⟨j, out2⟩ hj
          try dsimp only at hj
          refine r_seq ?_
          refine r_seq ?_
          refine q_region hG ?_ ?_ -- R8
          · trivial
          refine k_seq ?_
          refine q_cond ?_ ?_
          · intro hb2
            try simp only [decide_eq_true_eq] at hb2
            have hj4 := D.unit_pos hb2
            refine r_skip ?_
            refine k_seq ?_
            refine r_seq ?_
            refine j_block ?_
            refine r_cut (fun (z : Unit) => (⟨[(0, .l (.z .bool neg)), (1, .l (.z (.slice (.int .i64)) d)), (5, .l (.ownS 42)), (6, .l (.z (.int .i64) (i : Int))), (7, .l (.z (.int .i64) (D.unit j))), (8, .l (.z (.int .u8) ((48 + D.decimal (d.getD i 0) j : Nat) : Int)))], [(42, .arr (.int .u8) 5 out2)]⟩ : AState)) (fun z => True) ?_ ?_
            · refine q_region hG ?_ ?_ -- R10
              · try simp only [and_true, true_and]
                exact ⟨⟨by omega, by omega⟩, fun h => by rw [h] at hb2; exact absurd hb2 (by decide), by decide⟩
              show ∃ z, _
              simp only [ml0, ml1, Nat.reduceLT, Nat.reduceEqDiff, Nat.reduceAdd, Nat.reduceMul, Nat.reduceSub, Nat.reduceLeDiff, Nat.reduceBEq, Nat.reduceBNe, reduceIte, reduceDIte, reduceCtorEq]
              exact D.decimal_code (c1.1.getD i) hj4
            rintro ⟨⟩ hu
            try dsimp only at hu
            refine r_seq ?_
            refine q_region hG ?_ ?_ -- R11
            · try simp only [and_true, true_and]
              simp [get?, del]
            refine k_seq ?_
            refine q_cond ?_ ?_
            · intro hb3
              have hwl := D.write_len c1.1 hj (by omega)
              refine q_region hG ?_ ?_ -- R12
              · try simp only [and_true, true_and]
                unfold Cm.Roomy; omega
              refine k_block ?_
              refine k_seq ?_
              refine q_region hG ?_ ?_ -- R9
              · trivial
              show ∃ z, _
              simp only [ml0, ml1, Nat.reduceLT, Nat.reduceEqDiff, Nat.reduceAdd, Nat.reduceMul, Nat.reduceSub, Nat.reduceLeDiff, Nat.reduceBEq, Nat.reduceBNe, reduceIte, reduceDIte, reduceCtorEq]
              exact ⟨j + 1, (D.unit_next hj4).1, by first | exact D.write_take c1.1 hj hj4 (D.cond_t hb3) | exact D.write_leave c1.1 hj hj4 (D.cond_f hb3), by omega⟩
            · intro hb3
              refine r_skip ?_
              refine k_block ?_
              refine k_seq ?_
              refine q_region hG ?_ ?_ -- R9
              · trivial
              show ∃ z, _
              simp only [ml0, ml1, Nat.reduceLT, Nat.reduceEqDiff, Nat.reduceAdd, Nat.reduceMul, Nat.reduceSub, Nat.reduceLeDiff, Nat.reduceBEq, Nat.reduceBNe, reduceIte, reduceDIte, reduceCtorEq]
              exact ⟨j + 1, (D.unit_next hj4).1, by first | exact D.write_take c1.1 hj hj4 (D.cond_t hb3) | exact D.write_leave c1.1 hj hj4 (D.cond_f hb3), by omega⟩
          · intro hb2
            try simp only [decide_eq_true_eq, decide_eq_false_iff_not, beq_eq_false_iff_ne, bne_eq_false_iff_eq, Bool.not_eq_false', Bool.and_eq_false_imp] at hb2
            refine r_exit ?_
            refine k_seq_exit ?_
            refine k_round_exit ?_
            refine k_block_exit ?_
            refine k_block ?_
            refine k_seq ?_
            refine q_region hG ?_ ?_ -- R6
            · trivial
            show ∃ z, _
            simp only [ml0, ml1, Nat.reduceLT, Nat.reduceEqDiff, Nat.reduceAdd, Nat.reduceMul, Nat.reduceSub, Nat.reduceLeDiff, Nat.reduceBEq, Nat.reduceBNe, reduceIte, reduceDIte, reduceCtorEq]
            obtain rfl : j = 4 := by have := D.unit_end hb2; have := hj.hj; omega
            exact ⟨i, wi (by omega) (by omega), by omega, D.write_round c1.1 (by omega) hj, by omega⟩
      · intro hb1
        simp only [decide_eq_false_iff_not] at hb1
        obtain rfl : k = 0 := by omega
        have hz2 := hz.2
        rw [List.drop_zero] at hz2
        have hdl := D.dd_len c1.1
        subst hz2
        refine r_exit ?_
        refine k_seq_exit ?_
        refine k_round_exit ?_
        refine k_block_exit ?_
        refine k_seq ?_
        refine r_seq ?_
        refine r_seq ?_
        refine q_region hG ?_ ?_ -- R13
        · trivial
        refine k_seq ?_
        refine q_cond ?_ ?_
        · intro hb4
          refine r_seq ?_
          refine q_region hG ?_ ?_ -- R14
          · try simp only [and_true, true_and]
            rw [D.str_of_map]
            omega
          refine k_seq ?_
          refine r_ret ?_
          refine k_seq_ret ?_
          refine ⟨[], ?_⟩
          simp only [hT, tab305, mr0, mr1, mr2, Nat.reduceLT, Nat.reduceEqDiff, Nat.reduceAdd, Nat.reduceMul, Nat.reduceSub, Nat.reduceLeDiff, Nat.reduceBEq, Nat.reduceBNe, reduceIte, reduceDIte, reduceCtorEq]
          rw [D.str_of_map, if_pos hb4]
          exact D.write_minus c1 hne
        · intro hb4
          refine r_skip ?_
          refine k_seq ?_
          refine r_seq ?_
          refine q_region hG ?_ ?_ -- R15
          · trivial
          refine k_seq ?_
          refine r_ret ?_
          refine ⟨[], ?_⟩
          simp only [hT, tab305, mr0, mr1, mr2, Nat.reduceLT, Nat.reduceEqDiff, Nat.reduceAdd, Nat.reduceMul, Nat.reduceSub, Nat.reduceLeDiff, Nat.reduceBEq, Nat.reduceBNe, reduceIte, reduceDIte, reduceCtorEq]
          rw [D.str_of_map, if_neg (by rw [hb4]; decide)]
          exact D.write_text c1 hne

end Go.Proofs.YtkgbdpmhdplddaaGreatDoor
end

section
/- The library that reads a small integer, under its contract. -/
namespace Go.Proofs
open Go.RowKit Go.Cm

/-- Right in its form, of any length. -/
def cAtoi : Con := fun l os => match l, os with
  | [.z .str s], [] => some (chk s = 0 ∧ s.length ≤ 9, [.z (.int .i64) (numI s), .val .nilIface], [])
  | _, _ => none

theorem dec_from : ∀ (l : List UInt8) (a : Nat), Digits l → Lib.decFrom a l = some (l.foldl (fun n c => n * 10 + (c.toNat - 48)) a)
  | [], _, _ => rfl
  | c :: l, a, hd => by
    have h1 := hd c (by simp)
    rw [Lib.decFrom, Lib.digitVal, if_pos h1, List.foldl_cons]
    exact dec_from l _ (fun x hx => hd x (by simp [hx]))

theorem atoi_num {s : List UInt8} (h : chk s = 0) : Lib.atoi s = some (numI s) := by
  obtain ⟨d1, d2, d3, d4⟩ := chk_ok h
  cases s with
  | nil => exact absurd h (by decide)
  | cons b r =>
    unfold Lib.atoi
    dsimp only
    by_cases hb : b = 45
    · subst hb
      obtain ⟨p1, p2⟩ := hasPre_cons r
      rw [p2] at d1 d2
      have hne : r.isEmpty = false := by cases r <;> simp at d2 ⊢
      simp only [beq_self_eq_true, if_true, Lib.decNat, hne, Bool.false_eq_true, if_false, dec_from r 0 d1, Option.map_some]
      unfold numI
      rw [p1, p2]
      rfl
    · have ht : trimPre (b :: r) [45] = b :: r := by
        unfold trimPre hasPre
        rw [if_neg]
        intro e
        simp at e
        exact hb e
      rw [ht] at d1
      obtain ⟨p1, p2⟩ := hasPre_dig d1
      have h43 : b ≠ 43 := by
        intro e; subst e
        have := d1 43 (by simp)
        exact absurd this (by decide)
      rw [if_neg (by simpa using hb), if_neg (by simpa using h43), Lib.decNat, if_neg (by simp), dec_from _ 0 d1, Option.map_some]
      unfold numI
      rw [p1, p2]
      rfl

theorem valid323 {B : Base} (hB : Tabs B) : Valid B Tryz.prog 73 cAtoi := by
  intro args os C rs os' hc hC O w vals ρ0 hOn hIo hO hOI hargs hown hap
  unfold cAtoi at hc
  split at hc
  case h_2 => cases hc
  rename_i s
  cases hc
  obtain ⟨u, rfl, hu⟩ := one_val hargs
  rw [str_val hu]
  obtain ⟨h0, h1⟩ := hC
  have hsz : (⟨s.toArray⟩ : ByteArray).size = s.length := by simp [ByteArray.size]
  refine (Tryz.strconv_Atoi ⟨s.toArray⟩ (numI s) (by rw [hsz]; omega) (by simpa using atoi_num h0) w).mono fun e w' ⟨he, t, hw⟩ => ?_
  have hb : Below w.heap.size w w' := by
    rw [hw]; exact ⟨rfl, rfl, rfl, by rw [Lib.bytesWorld_size]; omega, fun k hk => Lib.bytesWorld_at_old w _ _ k hk⟩
  exact ⟨[.int .i64 (numI s), .nilIface], he, rfl, ⟨hb.os, hb.tape, hb.output, hb.size, fun k hk _ => hb.block k hk⟩, ⟨rep_int (ρ := fun _ => undef), rfl, trivial⟩, ⟨fun h => (by cases h), fun h => (by cases h), trivial⟩, fun p hp => by simp [ioList] at hp⟩

end Go.Proofs
end

section
/- The functions of the package exact, one after the other: each meets its contract. -/
set_option linter.unusedSimpArgs false
set_option linter.unusedVariables false
set_option maxRecDepth 100000
namespace Go.Proofs.YtkgbdpmhdplddaaGreatDoor
open Go Go.Cm Go.Proofs

def tab300 (B : Base) : Tab := { types := [(3, (.int .i64)), (5, (.int .u8)), (9, .str)], elems := [], cons := [], hint := [], N := 42, base := B }
theorem good300 {B : Base} (hB : Tabs B) : MGood Tryz.prog (tab300 B) := ⟨⟨types_cons ty3 (types_cons ty5 (types_cons ty9 (types_nil))), elems_nil, by simp only [tab300, ioB]; omega⟩, cons_nil rfl, by kernel_rfl⟩
def cRRight : Con := fun l os => match l, os with
  | [.z .str s], [] => some (s.length < CAP, [.z .bool (decide (chk s ≠ 5))], [])
  | _, _ => none

theorem valid300 {B : Base} (hB : Tabs B) : Valid B Tryz.prog 29 cRRight := by
  refine valid_of_J (T := tab300 B) (good300 hB).tab Tryz.func29 rfl rfl rfl ?_
  intro args os C rs os' hc hC
  unfold cRRight at hc
  split at hc
  case h_2 => cases hc
  rename_i s
  cases hc
  refine ⟨by simp only [List.length_cons, List.length_nil, tab300]; omega, rfl, ?_⟩
  intro X hP hT hr
  have hG : MGood X.P X.T := by rw [hP, hT]; exact good300 hB
  unfold tab300 at hT
  have hX := Bool.not_true
  simp only [Tryz.f29, argEnv, ioList, ioB]
  refine r_seq ?_
  refine q_region hG ?_ ?_ -- R0
  · trivial
  refine k_seq ?_
  refine r_seq ?_
  refine r_seq ?_
  refine q_region hG ?_ ?_ -- R1
  · trivial
  refine k_seq ?_
  refine q_cond ?_ ?_
  · intro hb0
    simp only [beq_iff_eq] at hb0
    refine r_seq ?_
    refine q_region hG ?_ ?_ -- R2
    · trivial
    refine k_seq ?_
    refine r_ret ?_
    refine k_seq_ret ?_
    refine ⟨[], ?_⟩
    simp only [hT, tab300, mr0, mr1, mr2, Nat.reduceLT, Nat.reduceEqDiff, Nat.reduceAdd, Nat.reduceMul, Nat.reduceSub, Nat.reduceLeDiff, Nat.reduceBEq, Nat.reduceBNe, reduceIte, reduceDIte, reduceCtorEq]
    exact right_48 hb0
  · intro hb0
    simp only [beq_eq_false_iff_ne, ne_eq] at hb0
    refine r_skip ?_
    refine k_seq ?_
    refine r_seq ?_
    refine q_region hG ?_ ?_ -- R3
    · trivial
    refine k_seq ?_
    refine r_cut (fun (z : Unit) => (⟨[(0, .l (.z .str s)), (3, .l (.z .str (trimPre s [45])))], []⟩ : AState)) (fun z => True) ?_ ?_
    · refine r_seq ?_
      refine q_region hG ?_ ?_ -- R4
      · try simp only [and_true, true_and]
        (repeat' (first | apply And.intro | intro _)) <;> (try simp only [decide_eq_true_eq, decide_eq_false_iff_not, Bool.not_eq_true', beq_iff_eq, Int.toNat_natCast] at *) <;> first | assumption | omega | trivial | (simp_all; done) | (simp_all; omega)
      refine k_seq ?_
      refine q_cond ?_ ?_
      · intro hb1
        try simp only [decide_eq_true_eq, decide_eq_false_iff_not, beq_iff_eq, bne_iff_ne, Bool.not_eq_true', Bool.and_eq_true] at hb1
        refine q_region hG ?_ ?_ -- R5
        · try simp only [and_true, true_and]
          have h9 : (0 : Int) < (List.length s : Int) := hb1.1
          exact ⟨by omega, by omega, Int.le_refl _⟩
        show ∃ z, _
        simp only [ml0, ml1, Nat.reduceLT, Nat.reduceEqDiff, Nat.reduceAdd, Nat.reduceMul, Nat.reduceSub, Nat.reduceLeDiff, Nat.reduceBEq, Nat.reduceBNe, reduceIte, reduceDIte, reduceCtorEq]
        first | exact right_neg hb1 | exact right_pos hb1
      · intro hb1
        try simp only [decide_eq_true_eq, decide_eq_false_iff_not, beq_eq_false_iff_ne, bne_eq_false_iff_eq, Bool.not_eq_false', Bool.and_eq_false_imp] at hb1
        refine r_skip ?_
        show ∃ z, _
        simp only [ml0, ml1, Nat.reduceLT, Nat.reduceEqDiff, Nat.reduceAdd, Nat.reduceMul, Nat.reduceSub, Nat.reduceLeDiff, Nat.reduceBEq, Nat.reduceBNe, reduceIte, reduceDIte, reduceCtorEq]
        first | exact right_neg hb1 | exact right_pos hb1
    rintro ⟨⟩ hu
    try dsimp only at hu
    have hl := trim_len s [45]
    have hc : List.length s < 1000000000000 := hC
    refine r_seq ?_
    refine r_seq ?_
    refine q_region hG ?_ ?_ -- R6
    · try simp only [and_true, true_and]
      exact idx_len _
    refine k_seq ?_
    refine q_cond ?_ ?_
    · intro hb2
      refine r_seq ?_
      refine q_region hG ?_ ?_ -- R7
      · trivial
      refine k_seq ?_
      refine r_ret ?_
      refine k_seq_ret ?_
      refine ⟨[], ?_⟩
      simp only [hT, tab300, mr0, mr1, mr2, Nat.reduceLT, Nat.reduceEqDiff, Nat.reduceAdd, Nat.reduceMul, Nat.reduceSub, Nat.reduceLeDiff, Nat.reduceBEq, Nat.reduceBNe, reduceIte, reduceDIte, reduceCtorEq]
      exact right_first hb0 hb2
    · intro hb2
      have hmid := right_mid hb2
      refine r_skip ?_
      refine k_seq ?_
      refine r_seq ?_
      refine r_seq ?_
      refine q_region hG ?_ ?_ -- R8
      · trivial
      refine k_seq ?_
      refine j_block ?_
      refine j_loop (fun (z : Nat) => (⟨[(0, .l (.z .str s)), (3, .l (.z .str (trimPre s [45]))), (4, .l (.z (.int .i64) (z : Int)))], []⟩ : AState)) (fun z => z ≤ (trimPre s [45]).length ∧ (List.take z (trimPre s [45])).all isDig = true) (fun z => (trimPre s [45]).length - z) 0 ?_ ?_ ?_
      · simp only [ml0, ml1, Nat.reduceLT, Nat.reduceEqDiff, Nat.reduceAdd, Nat.reduceMul, Nat.reduceSub, Nat.reduceLeDiff, Nat.reduceBEq, Nat.reduceBNe, reduceIte, reduceDIte, reduceCtorEq]
        rfl
      · exact ⟨Nat.zero_le _, rfl⟩
      · rintro k ⟨g1, g2⟩
        try dsimp only at g1 g2
        refine r_seq ?_
        refine r_seq ?_
        refine q_region hG ?_ ?_ -- R9
        · trivial
        refine k_seq ?_
        refine q_cond ?_ ?_
        · intro hb3
          try simp only [decide_eq_true_eq, decide_eq_false_iff_not, beq_iff_eq, bne_iff_ne, Bool.not_eq_true', Bool.and_eq_true] at hb3
          refine r_skip ?_
          refine k_seq ?_
          refine r_seq ?_
          refine j_block ?_
          refine r_seq ?_
          refine q_region hG ?_ ?_ -- R11
          · try simp only [and_true, true_and]
            exact ⟨⟨by omega, hb3⟩, fun h => ⟨h, by omega, hb3⟩, fun h => h, fun h => by rw [h]; rfl⟩
          refine k_seq ?_
          refine q_cond ?_ ?_
          · intro hb4
            refine r_seq ?_
            refine q_region hG ?_ ?_ -- R12
            · trivial
            refine k_seq ?_
            refine r_ret ?_
            refine k_block_ret ?_
            refine k_seq_ret ?_
            refine k_round_ret ?_
            refine k_block_ret ?_
            refine k_seq_ret ?_
            refine ⟨[], ?_⟩
            simp only [hT, tab300, mr0, mr1, mr2, Nat.reduceLT, Nat.reduceEqDiff, Nat.reduceAdd, Nat.reduceMul, Nat.reduceSub, Nat.reduceLeDiff, Nat.reduceBEq, Nat.reduceBNe, reduceIte, reduceDIte, reduceCtorEq]
            exact right_bad hb0 hmid hb3 hb4
          · intro hb4
            refine r_skip ?_
            refine k_block ?_
            refine k_seq ?_
            refine q_region hG ?_ ?_ -- R10
            · trivial
            show ∃ z, _
            simp only [ml0, ml1, Nat.reduceLT, Nat.reduceEqDiff, Nat.reduceAdd, Nat.reduceMul, Nat.reduceSub, Nat.reduceLeDiff, Nat.reduceBEq, Nat.reduceBNe, reduceIte, reduceDIte, reduceCtorEq]
            exact ⟨k + 1, by rw [wi (by omega) (by omega)]; simp, by omega, right_good hb3 hb4 g2, by omega⟩
        · intro hb3
          try simp only [decide_eq_true_eq, decide_eq_false_iff_not, beq_eq_false_iff_ne, bne_eq_false_iff_eq, Bool.not_eq_false', Bool.and_eq_false_imp] at hb3
          refine r_exit ?_
          refine k_seq_exit ?_
          refine k_round_exit ?_
          refine k_block_exit ?_
          refine k_seq ?_
          refine r_seq ?_
          refine q_region hG ?_ ?_ -- R13
          · trivial
          refine k_seq ?_
          refine r_ret ?_
          refine ⟨[], ?_⟩
          simp only [hT, tab300, mr0, mr1, mr2, Nat.reduceLT, Nat.reduceEqDiff, Nat.reduceAdd, Nat.reduceMul, Nat.reduceSub, Nat.reduceLeDiff, Nat.reduceBEq, Nat.reduceBNe, reduceIte, reduceDIte, reduceCtorEq]
          exact right_end hb0 hmid hb3 g2

def tab302 (B : Base) : Tab := { types := [(3, (.int .i64)), (9, .str)], elems := [], cons := [(29, cRRight), (30, cRDigits)], hint := [], N := 9, base := B }
theorem good302 {B : Base} (hB : Tabs B) : MGood Tryz.prog (tab302 B) := ⟨⟨types_cons ty3 (types_cons ty9 (types_nil)), elems_nil, by simp only [tab302, ioB]; omega⟩, cons_ok (cals_cons (cal_ok Tryz.func29 (by kernel_rfl) rfl (valid300 hB)) (cals_cons (cal_ok Tryz.func30 (by kernel_rfl) rfl (valid301 hB)) (cals_nil))), by kernel_rfl⟩
def cRCheck : Con := fun l os => match l, os with
  | [.z .str s], [] => some (s.length < CAP, [.z (.int .i64) (chk s)], [])
  | _, _ => none

theorem valid302 {B : Base} (hB : Tabs B) : Valid B Tryz.prog 10 cRCheck := by
  refine valid_of_J (T := tab302 B) (good302 hB).tab Tryz.func10 rfl rfl rfl ?_
  intro args os C rs os' hc hC
  unfold cRCheck at hc
  split at hc
  case h_2 => cases hc
  rename_i s
  cases hc
  refine ⟨by simp only [List.length_cons, List.length_nil, tab302]; omega, rfl, ?_⟩
  intro X hP hT hr
  have hG : MGood X.P X.T := by rw [hP, hT]; exact good302 hB
  unfold tab302 at hT
  have hX := And.intro (@cRRight.eq_1) <| @cRDigits.eq_1
  simp only [Tryz.f10, argEnv, ioList, ioB]
  refine r_seq ?_
  refine q_region hG ?_ ?_ -- R0
  · trivial
  refine k_seq ?_
  refine r_seq ?_
  refine r_seq ?_
  refine q_region hG ?_ ?_ -- R1
  · try simp only [and_true, true_and]
    exact hC
  refine k_seq ?_
  refine q_cond ?_ ?_
  · intro hb0
    try simp only [decide_eq_true_eq, decide_eq_false_iff_not, beq_iff_eq, bne_iff_ne, Bool.not_eq_true', Bool.and_eq_true] at hb0
    refine r_seq ?_
    refine q_region hG ?_ ?_ -- R2
    · trivial
    refine k_seq ?_
    refine r_ret ?_
    refine k_seq_ret ?_
    refine ⟨[], ?_⟩
    simp only [hT, tab302, mr0, mr1, mr2, Nat.reduceLT, Nat.reduceEqDiff, Nat.reduceAdd, Nat.reduceMul, Nat.reduceSub, Nat.reduceLeDiff, Nat.reduceBEq, Nat.reduceBNe, reduceIte, reduceDIte, reduceCtorEq]
    exact (Decidable.not_not.1 hb0).symm
  · intro hb0
    try simp only [decide_eq_true_eq, decide_eq_false_iff_not, beq_eq_false_iff_ne, bne_eq_false_iff_eq, Bool.not_eq_false', Bool.and_eq_false_imp] at hb0
    refine r_skip ?_
    refine k_seq ?_
    refine r_seq ?_
    refine r_seq ?_
    refine q_region hG ?_ ?_ -- R3
    · try simp only [and_true, true_and]
      exact ⟨hb0, hC⟩
    refine k_seq ?_
    refine q_cond ?_ ?_
    · intro hb1
      try simp only [decide_eq_true_eq, decide_eq_false_iff_not, beq_iff_eq, bne_iff_ne, Bool.not_eq_true', Bool.and_eq_true] at hb1
      refine r_seq ?_
      refine q_region hG ?_ ?_ -- R4
      · trivial
      refine k_seq ?_
      refine r_ret ?_
      refine k_seq_ret ?_
      refine ⟨[], ?_⟩
      simp only [hT, tab302, mr0, mr1, mr2, Nat.reduceLT, Nat.reduceEqDiff, Nat.reduceAdd, Nat.reduceMul, Nat.reduceSub, Nat.reduceLeDiff, Nat.reduceBEq, Nat.reduceBNe, reduceIte, reduceDIte, reduceCtorEq]
      rw [chk_ndig hb0, if_pos hb1]
    · intro hb1
      try simp only [decide_eq_true_eq, decide_eq_false_iff_not, beq_eq_false_iff_ne, bne_eq_false_iff_eq, Bool.not_eq_false', Bool.and_eq_false_imp] at hb1
      refine r_skip ?_
      refine k_seq ?_
      refine r_seq ?_
      refine q_region hG ?_ ?_ -- R5
      · trivial
      refine k_seq ?_
      refine r_ret ?_
      refine ⟨[], ?_⟩
      simp only [hT, tab302, mr0, mr1, mr2, Nat.reduceLT, Nat.reduceEqDiff, Nat.reduceAdd, Nat.reduceMul, Nat.reduceSub, Nat.reduceLeDiff, Nat.reduceBEq, Nat.reduceBNe, reduceIte, reduceDIte, reduceCtorEq]
      rw [chk_ndig hb0, if_neg hb1]

def tab313 (B : Base) : Tab := { types := [(4, .bool), (9, .str), (76, (.slice (.int .i64)))], elems := [], cons := [(34, cRNegative), (45, cRWrite), (47, cRRead)], hint := [], N := 9, base := B }
theorem good313 {B : Base} (hB : Tabs B) : MGood Tryz.prog (tab313 B) := ⟨⟨types_cons ty4 (types_cons ty9 (types_cons ty76 (types_nil))), elems_nil, by simp only [tab313, ioB]; omega⟩, cons_ok (cals_cons (cal_ok Tryz.func34 (by kernel_rfl) rfl (valid311 hB)) (cals_cons (cal_ok Tryz.func45 (by kernel_rfl) rfl (valid305 hB)) (cals_cons (cal_ok Tryz.func47 (by kernel_rfl) rfl (valid303 hB)) (cals_nil)))), by kernel_rfl⟩
def cRNeg : Con := fun l os => match l, os with
  | [.z .str s], [] => some (RF s ∧ 4 * s.length < CAP, [.z .str (Lib.itoa (- numI s))], [])
  | _, _ => none

theorem valid313 {B : Base} (hB : Tabs B) : Valid B Tryz.prog 65 cRNeg := by
  refine valid_of_J (T := tab313 B) (good313 hB).tab Tryz.func65 rfl rfl rfl ?_
  intro args os C rs os' hc hC
  unfold cRNeg at hc
  split at hc
  case h_2 => cases hc
  rename_i s
  cases hc
  refine ⟨by simp only [List.length_cons, List.length_nil, tab313]; omega, rfl, ?_⟩
  intro X hP hT hr
  have hG : MGood X.P X.T := by rw [hP, hT]; exact good313 hB
  unfold tab313 at hT
  have hX := And.intro (@cRNegative.eq_1) <| And.intro (@cRRead.eq_1) <| @cRWrite.eq_1
  simp only [Tryz.f65, argEnv, ioList, ioB]
  refine r_seq ?_
  refine q_region hG ?_ ?_ -- R0
  · trivial
  refine k_seq ?_
  refine r_seq ?_
  refine q_region hG ?_ ?_ -- R1
  · try simp only [and_true, true_and]
    have h1 := rf_limbs hC.1
    have h2 := hC.2
    exact ⟨hC.1, ⟨hC.1, by omega⟩, D.limbs_can _, by omega⟩
  refine k_seq ?_
  refine r_ret ?_
  refine ⟨[], ?_⟩
  simp only [hT, tab313, mr0, mr1, mr2, Nat.reduceLT, Nat.reduceEqDiff, Nat.reduceAdd, Nat.reduceMul, Nat.reduceSub, Nat.reduceLeDiff, Nat.reduceBEq, Nat.reduceBNe, reduceIte, reduceDIte, reduceCtorEq]
  exact neg_val _

def tab314 (B : Base) : Tab := { types := [(9, .str)], elems := [], cons := [(34, cRNegative)], hint := [], N := 7, base := B }
theorem good314 {B : Base} (hB : Tabs B) : MGood Tryz.prog (tab314 B) := ⟨⟨types_cons ty9 (types_nil), elems_nil, by simp only [tab314, ioB]; omega⟩, cons_ok (cals_cons (cal_ok Tryz.func34 (by kernel_rfl) rfl (valid311 hB)) (cals_nil)), by kernel_rfl⟩
def cRSign : Con := fun l os => match l, os with
  | [.z .str s], [] => some (RF s, [.z (.int .i64) (cmpI (numI s) 0)], [])
  | _, _ => none

theorem valid314 {B : Base} (hB : Tabs B) : Valid B Tryz.prog 61 cRSign := by
  refine valid_of_J (T := tab314 B) (good314 hB).tab Tryz.func61 rfl rfl rfl ?_
  intro args os C rs os' hc hC
  unfold cRSign at hc
  split at hc
  case h_2 => cases hc
  rename_i s
  cases hc
  refine ⟨by simp only [List.length_cons, List.length_nil, tab314]; omega, rfl, ?_⟩
  intro X hP hT hr
  have hG : MGood X.P X.T := by rw [hP, hT]; exact good314 hB
  unfold tab314 at hT
  have hX := @cRNegative.eq_1
  simp only [Tryz.f61, argEnv, ioList, ioB]
  refine r_seq ?_
  refine q_region hG ?_ ?_ -- R0
  · trivial
  refine k_seq ?_
  refine r_seq ?_
  refine r_seq ?_
  refine q_region hG ?_ ?_ -- R1
  · trivial
  refine k_seq ?_
  refine q_cond ?_ ?_
  · intro hb0
    try simp only [decide_eq_true_eq, decide_eq_false_iff_not, beq_iff_eq, bne_iff_ne, Bool.not_eq_true', Bool.and_eq_true] at hb0
    refine r_seq ?_
    refine q_region hG ?_ ?_ -- R2
    · trivial
    refine k_seq ?_
    refine r_ret ?_
    refine k_seq_ret ?_
    refine ⟨[], ?_⟩
    simp only [hT, tab314, mr0, mr1, mr2, Nat.reduceLT, Nat.reduceEqDiff, Nat.reduceAdd, Nat.reduceMul, Nat.reduceSub, Nat.reduceLeDiff, Nat.reduceBEq, Nat.reduceBNe, reduceIte, reduceDIte, reduceCtorEq]
    exact (sign_val hC).1 hb0
  · intro hb0
    try simp only [decide_eq_true_eq, decide_eq_false_iff_not, beq_eq_false_iff_ne, bne_eq_false_iff_eq, Bool.not_eq_false', Bool.and_eq_false_imp] at hb0
    refine r_skip ?_
    refine k_seq ?_
    refine r_seq ?_
    refine r_seq ?_
    refine q_region hG ?_ ?_ -- R3
    · try simp only [and_true, true_and]
      exact hC
    refine k_seq ?_
    refine q_cond ?_ ?_
    · intro hb1
      try simp only [decide_eq_true_eq, decide_eq_false_iff_not, beq_iff_eq, bne_iff_ne, Bool.not_eq_true', Bool.and_eq_true] at hb1
      refine r_seq ?_
      refine q_region hG ?_ ?_ -- R4
      · trivial
      refine k_seq ?_
      refine r_ret ?_
      refine k_seq_ret ?_
      refine ⟨[], ?_⟩
      simp only [hT, tab314, mr0, mr1, mr2, Nat.reduceLT, Nat.reduceEqDiff, Nat.reduceAdd, Nat.reduceMul, Nat.reduceSub, Nat.reduceLeDiff, Nat.reduceBEq, Nat.reduceBNe, reduceIte, reduceDIte, reduceCtorEq]
      exact (sign_val hC).2.1 hb0 hb1
    · intro hb1
      try simp only [decide_eq_true_eq, decide_eq_false_iff_not, beq_eq_false_iff_ne, bne_eq_false_iff_eq, Bool.not_eq_false', Bool.and_eq_false_imp] at hb1
      refine r_skip ?_
      refine k_seq ?_
      refine r_seq ?_
      refine q_region hG ?_ ?_ -- R5
      · trivial
      refine k_seq ?_
      refine r_ret ?_
      refine ⟨[], ?_⟩
      simp only [hT, tab314, mr0, mr1, mr2, Nat.reduceLT, Nat.reduceEqDiff, Nat.reduceAdd, Nat.reduceMul, Nat.reduceSub, Nat.reduceLeDiff, Nat.reduceBEq, Nat.reduceBNe, reduceIte, reduceDIte, reduceCtorEq]
      exact (sign_val hC).2.2 hb0 hb1

def tab315 (B : Base) : Tab := { types := [(3, (.int .i64)), (9, .str), (76, (.slice (.int .i64)))], elems := [], cons := [(34, cRNegative), (47, cRRead), (61, cRSign), (62, cRCompare)], hint := [], N := 27, base := B }
theorem good315 {B : Base} (hB : Tabs B) : MGood Tryz.prog (tab315 B) := ⟨⟨types_cons ty3 (types_cons ty9 (types_cons ty76 (types_nil))), elems_nil, by simp only [tab315, ioB]; omega⟩, cons_ok (cals_cons (cal_ok Tryz.func34 (by kernel_rfl) rfl (valid311 hB)) (cals_cons (cal_ok Tryz.func47 (by kernel_rfl) rfl (valid303 hB)) (cals_cons (cal_ok Tryz.func61 (by kernel_rfl) rfl (valid314 hB)) (cals_cons (cal_ok Tryz.func62 (by kernel_rfl) rfl (valid306 hB)) (cals_nil))))), by kernel_rfl⟩
def cRCmp : Con := fun l os => match l, os with
  | [.z .str a, .z .str b], [] => some ((RF a ∧ a.length < CAP) ∧ RF b ∧ b.length < CAP, [.z (.int .i64) (cmpI (numI a) (numI b))], [])
  | _, _ => none

theorem valid315 {B : Base} (hB : Tabs B) : Valid B Tryz.prog 33 cRCmp := by
  refine valid_of_J (T := tab315 B) (good315 hB).tab Tryz.func33 rfl rfl rfl ?_
  intro args os C rs os' hc hC
  unfold cRCmp at hc
  split at hc
  case h_2 => cases hc
  rename_i a b
  cases hc
  refine ⟨by simp only [List.length_cons, List.length_nil, tab315]; omega, rfl, ?_⟩
  intro X hP hT hr
  have hG : MGood X.P X.T := by rw [hP, hT]; exact good315 hB
  unfold tab315 at hT
  have hX := And.intro (@cRSign.eq_1) <| And.intro (@cRNegative.eq_1) <| And.intro (@cRRead.eq_1) <| @cRCompare.eq_1
  simp only [Tryz.f33, argEnv, ioList, ioB]
  refine r_seq ?_
  refine q_region hG ?_ ?_ -- R0
  · trivial
  refine k_seq ?_
  refine r_seq ?_
  refine r_seq ?_
  refine q_region hG ?_ ?_ -- R1
  · try simp only [and_true, true_and]
    exact ⟨hC.1.1, hC.2.1⟩
  refine k_seq ?_
  refine q_cond ?_ ?_
  · intro hb0
    try simp only [decide_eq_true_eq, decide_eq_false_iff_not, beq_iff_eq, bne_iff_ne, Bool.not_eq_true', Bool.and_eq_true] at hb0
    refine r_seq ?_
    refine r_seq ?_
    refine q_region hG ?_ ?_ -- R2
    · try simp only [and_true, true_and]
      exact ⟨hC.1.1, hC.2.1⟩
    refine k_seq ?_
    refine q_cond ?_ ?_
    · intro hb1
      try simp only [decide_eq_true_eq, decide_eq_false_iff_not, beq_iff_eq, bne_iff_ne, Bool.not_eq_true', Bool.and_eq_true] at hb1
      refine r_seq ?_
      refine q_region hG ?_ ?_ -- R3
      · trivial
      refine k_seq ?_
      refine r_ret ?_
      refine k_seq_ret ?_
      refine k_seq_ret ?_
      refine ⟨[], ?_⟩
      simp only [hT, tab315, mr0, mr1, mr2, Nat.reduceLT, Nat.reduceEqDiff, Nat.reduceAdd, Nat.reduceMul, Nat.reduceSub, Nat.reduceLeDiff, Nat.reduceBEq, Nat.reduceBNe, reduceIte, reduceDIte, reduceCtorEq]
      exact (cmp_sign hb0).1 hb1
    · intro hb1
      try simp only [decide_eq_true_eq, decide_eq_false_iff_not, beq_eq_false_iff_ne, bne_eq_false_iff_eq, Bool.not_eq_false', Bool.and_eq_false_imp] at hb1
      refine r_skip ?_
      refine k_seq ?_
      refine r_seq ?_
      refine q_region hG ?_ ?_ -- R4
      · trivial
      refine k_seq ?_
      refine r_ret ?_
      refine k_seq_ret ?_
      refine ⟨[], ?_⟩
      simp only [hT, tab315, mr0, mr1, mr2, Nat.reduceLT, Nat.reduceEqDiff, Nat.reduceAdd, Nat.reduceMul, Nat.reduceSub, Nat.reduceLeDiff, Nat.reduceBEq, Nat.reduceBNe, reduceIte, reduceDIte, reduceCtorEq]
      exact (cmp_sign hb0).2 hb1
  · intro hb0
    try simp only [decide_eq_true_eq, decide_eq_false_iff_not, beq_eq_false_iff_ne, bne_eq_false_iff_eq, Bool.not_eq_false', Bool.and_eq_false_imp] at hb0
    refine r_skip ?_
    refine k_seq ?_
    refine r_seq ?_
    refine r_seq ?_
    refine q_region hG ?_ ?_ -- R5
    · try simp only [and_true, true_and]
      exact hC.1.1
    refine k_seq ?_
    refine q_cond ?_ ?_
    · intro hb2
      try simp only [decide_eq_true_eq, decide_eq_false_iff_not, beq_iff_eq, bne_iff_ne, Bool.not_eq_true', Bool.and_eq_true] at hb2
      refine r_seq ?_
      refine q_region hG ?_ ?_ -- R6
      · try simp only [and_true, true_and]
        have h1 := rf_limbs hC.1.1
        have h2 := rf_limbs hC.2.1
        have h3 := hC.1.2
        have h4 := hC.2.2
        exact ⟨hC.2, hC.1, D.limbs_can _, D.limbs_can _, by omega, by omega⟩
      refine k_seq ?_
      refine r_ret ?_
      refine k_seq_ret ?_
      refine ⟨[], ?_⟩
      simp only [hT, tab315, mr0, mr1, mr2, Nat.reduceLT, Nat.reduceEqDiff, Nat.reduceAdd, Nat.reduceMul, Nat.reduceSub, Nat.reduceLeDiff, Nat.reduceBEq, Nat.reduceBNe, reduceIte, reduceDIte, reduceCtorEq]
      exact (cmp_mag hb0).1 hb2
    · intro hb2
      try simp only [decide_eq_true_eq, decide_eq_false_iff_not, beq_eq_false_iff_ne, bne_eq_false_iff_eq, Bool.not_eq_false', Bool.and_eq_false_imp] at hb2
      refine r_skip ?_
      refine k_seq ?_
      refine r_seq ?_
      refine q_region hG ?_ ?_ -- R7
      · try simp only [and_true, true_and]
        have h1 := rf_limbs hC.1.1
        have h2 := rf_limbs hC.2.1
        have h3 := hC.1.2
        have h4 := hC.2.2
        exact ⟨hC.1, hC.2, D.limbs_can _, D.limbs_can _, by omega, by omega⟩
      refine k_seq ?_
      refine r_ret ?_
      refine ⟨[], ?_⟩
      simp only [hT, tab315, mr0, mr1, mr2, Nat.reduceLT, Nat.reduceEqDiff, Nat.reduceAdd, Nat.reduceMul, Nat.reduceSub, Nat.reduceLeDiff, Nat.reduceBEq, Nat.reduceBNe, reduceIte, reduceDIte, reduceCtorEq]
      exact (cmp_mag hb0).2 hb2

def tab312 (B : Base) : Tab := { types := [(3, (.int .i64)), (9, .str)], elems := [], cons := [(73, cAtoi)], hint := [], N := 31, base := B }
theorem good312 {B : Base} (hB : Tabs B) : MGood Tryz.prog (tab312 B) := ⟨⟨types_cons ty3 (types_cons ty9 (types_nil)), elems_nil, by simp only [tab312, ioB]; omega⟩, cons_ok (cals_cons (cal_ok Tryz.func73 (by kernel_rfl) rfl (valid323 hB)) (cals_nil)), by kernel_rfl⟩
def cRLittle : Con := fun l os => match l, os with
  | [.z .str a, .z .str b], [] => some (RF a ∧ RF b ∧ a.length < CAP ∧ b.length < CAP, [.z (.int .i64) (if a.length ≤ 9 ∧ b.length ≤ 9 then numI a else 0), .z (.int .i64) (if a.length ≤ 9 ∧ b.length ≤ 9 then numI b else 0), .z .bool (decide (a.length ≤ 9 ∧ b.length ≤ 9))], [])
  | _, _ => none

theorem valid312 {B : Base} (hB : Tabs B) : Valid B Tryz.prog 43 cRLittle := by
  refine valid_of_J (T := tab312 B) (good312 hB).tab Tryz.func43 rfl rfl rfl ?_
  intro args os C rs os' hc hC
  unfold cRLittle at hc
  split at hc
  case h_2 => cases hc
  rename_i a b
  cases hc
  refine ⟨by simp only [List.length_cons, List.length_nil, tab312]; omega, rfl, ?_⟩
  intro X hP hT hr
  have hG : MGood X.P X.T := by rw [hP, hT]; exact good312 hB
  unfold tab312 at hT
  have hX := @cAtoi.eq_1
  simp only [Tryz.f43, argEnv, ioList, ioB]
  refine r_seq ?_
  refine q_region hG ?_ ?_ -- R0
  · trivial
  refine k_seq ?_
  refine r_seq ?_
  refine r_seq ?_
  refine q_region hG ?_ ?_ -- R1
  · try simp only [and_true, true_and]
    (repeat' (first | apply And.intro | intro _)) <;> (try simp only [decide_eq_true_eq, decide_eq_false_iff_not, Bool.not_eq_true', beq_iff_eq, Int.toNat_natCast] at *) <;> first | assumption | omega | trivial | (simp_all; done) | (simp_all; omega)
  refine k_seq ?_
  refine q_cond ?_ ?_
  · intro hb0
    simp only [Bool.or_eq_true, decide_eq_true_eq] at hb0
    have hl : ¬ (List.length a ≤ 9 ∧ List.length b ≤ 9) := by omega
    refine r_seq ?_
    refine q_region hG ?_ ?_ -- R2
    · trivial
    refine k_seq ?_
    refine r_ret ?_
    refine k_seq_ret ?_
    refine ⟨[], ?_⟩
    simp only [hT, tab312, mr0, mr1, mr2, Nat.reduceLT, Nat.reduceEqDiff, Nat.reduceAdd, Nat.reduceMul, Nat.reduceSub, Nat.reduceLeDiff, Nat.reduceBEq, Nat.reduceBNe, reduceIte, reduceDIte, reduceCtorEq]
    rw [if_neg hl, if_neg hl, decide_eq_false hl]; exact ⟨rfl, rfl, rfl⟩
  · intro hb0
    simp only [Bool.or_eq_false_iff, decide_eq_false_iff_not] at hb0
    have hl : List.length a ≤ 9 ∧ List.length b ≤ 9 := by omega
    refine r_skip ?_
    refine k_seq ?_
    refine r_seq ?_
    refine q_region hG ?_ ?_ -- R3
    · try simp only [and_true, true_and]
      exact ⟨rf_short hC.1 hl.1, hl.1⟩
    refine k_seq ?_
    refine r_seq ?_
    refine q_region hG ?_ ?_ -- R4
    · try simp only [and_true, true_and]
      exact ⟨rf_short hC.2.1 hl.2, hl.2⟩
    refine k_seq ?_
    refine r_seq ?_
    refine q_region hG ?_ ?_ -- R5
    · trivial
    refine k_seq ?_
    refine r_ret ?_
    refine ⟨[], ?_⟩
    simp only [hT, tab312, mr0, mr1, mr2, Nat.reduceLT, Nat.reduceEqDiff, Nat.reduceAdd, Nat.reduceMul, Nat.reduceSub, Nat.reduceLeDiff, Nat.reduceBEq, Nat.reduceBNe, reduceIte, reduceDIte, reduceCtorEq]
    rw [if_pos hl, if_pos hl, decide_eq_true hl]; exact ⟨rfl, rfl, rfl⟩

def tab321 (B : Base) : Tab := { types := [(3, (.int .i64))], elems := [], cons := [(69, cItoa)], hint := [], N := 5, base := B }
theorem good321 {B : Base} (hB : Tabs B) : MGood Tryz.prog (tab321 B) := ⟨⟨types_cons ty3 (types_nil), elems_nil, by simp only [tab321, ioB]; omega⟩, cons_ok (cals_cons (cal_ok Tryz.func69 (by kernel_rfl) rfl (valid57 hB)) (cals_nil)), by kernel_rfl⟩
def cROf : Con := fun l os => match l, os with
  | [.z (.int .i64) n], [] => some (I64 n, [.z .str (Lib.itoa n)], [])
  | _, _ => none

theorem valid321 {B : Base} (hB : Tabs B) : Valid B Tryz.prog 44 cROf := by
  refine valid_of_J (T := tab321 B) (good321 hB).tab Tryz.func44 rfl rfl rfl ?_
  intro args os C rs os' hc hC
  unfold cROf at hc
  split at hc
  case h_2 => cases hc
  rename_i n
  cases hc
  refine ⟨by simp only [List.length_cons, List.length_nil, tab321]; omega, rfl, ?_⟩
  intro X hP hT hr
  have hG : MGood X.P X.T := by rw [hP, hT]; exact good321 hB
  unfold tab321 at hT
  have hX := @cItoa.eq_1
  simp only [Tryz.f44, argEnv, ioList, ioB]
  refine r_seq ?_
  refine q_region hG ?_ ?_ -- R0
  · trivial
  refine k_seq ?_
  refine r_seq ?_
  refine q_region hG ?_ ?_ -- R1
  · try simp only [and_true, true_and]
    exact hC
  refine k_seq ?_
  refine r_ret ?_
  refine ⟨[], ?_⟩
  simp only [hT, tab321, mr0, mr1, mr2, Nat.reduceLT, Nat.reduceEqDiff, Nat.reduceAdd, Nat.reduceMul, Nat.reduceSub, Nat.reduceLeDiff, Nat.reduceBEq, Nat.reduceBNe, reduceIte, reduceDIte, reduceCtorEq]
  skip

end Go.Proofs.YtkgbdpmhdplddaaGreatDoor
end

section
/- An owned array may be taken for data that nobody writes, anywhere. No program is in sight. -/
namespace Go.Cm

theorem r_freeze {X : Cx} {c : Code} {s s' : AState} {K : Exit → AState → Prop} (l : List Nat) (he : s.freezeAll l = s') (h : J X c s' K) : J X c s K := by
  subst he
  exact fun a w hst => h a w (hst.freezeAll l)

end Go.Cm
end

section
/- The functions of the package exact, one after the other: each meets its contract. -/
set_option linter.unusedSimpArgs false
set_option linter.unusedVariables false
set_option maxRecDepth 100000
namespace Go.Proofs.YtkgbdpmhdplddaaGreatDoor
open Go Go.Cm Go.Proofs

def tab310 (B : Base) : Tab := { types := [(3, (.int .i64)), (76, (.slice (.int .i64)))], elems := [(76, 3)], cons := [(46, cRTimes), (62, cRCompare), (64, cRMinus), (74, cRCut)], hint := [23, 31, 50], N := 125, base := B }
theorem good310 {B : Base} (hB : Tabs B) : MGood Tryz.prog (tab310 B) := ⟨⟨types_cons ty3 (types_cons ty76 (types_nil)), elems_cons (by kernel_rfl) (elems_nil), by simp only [tab310, ioB]; omega⟩, cons_ok (cals_cons (cal_ok Tryz.func46 (by kernel_rfl) rfl (valid309 hB)) (cals_cons (cal_ok Tryz.func62 (by kernel_rfl) rfl (valid306 hB)) (cals_cons (cal_ok Tryz.func64 (by kernel_rfl) rfl (valid308 hB)) (cals_cons (cal_ok Tryz.func74 (by kernel_rfl) rfl (valid304 hB)) (cals_nil))))), by kernel_rfl⟩
def cRDivide : Con := fun l os => match l, os with
  | [.z (.slice (.int .i64)) a, .z (.slice (.int .i64)) b], [] => some (D.Cano a ∧ D.Cano b ∧ b ≠ [] ∧ a.length + b.length + 2 < CAP, [.z (.slice (.int .i64)) (D.limbs (D.valL a / D.valL b).toNat), .z (.slice (.int .i64)) (D.limbs (D.valL a % D.valL b).toNat)], [])
  | _, _ => none

set_option maxHeartbeats 1000000 in
theorem valid310 {B : Base} (hB : Tabs B) : Valid B Tryz.prog 48 cRDivide := by
  refine valid_of_J (T := tab310 B) (good310 hB).tab Tryz.func48 rfl rfl rfl ?_
  intro args os C rs os' hc hC
  unfold cRDivide at hc
  split at hc
  case h_2 => cases hc
  rename_i a b
  cases hc
  refine ⟨by simp only [List.length_cons, List.length_nil, tab310]; omega, rfl, ?_⟩
  intro X hP hT hr
  have hG : MGood X.P X.T := by rw [hP, hT]; exact good310 hB
  unfold tab310 at hT
  have hX := And.intro (@cRCut.eq_1) <| And.intro (@cRCompare.eq_1) <| And.intro (@cRMinus.eq_1) <| @cRTimes.eq_1
  simp only [Tryz.f48, argEnv, ioList, ioB]
  refine r_seq ?_
  refine q_region hG ?_ ?_ -- R0
  · trivial
  refine k_seq ?_
  refine r_cut (fun (z : Nat) => (⟨[(0, .l (.z (.slice (.int .i64)) a)), (1, .l (.z (.slice (.int .i64)) b)), (6, .l (.z (.int .i64) (z : Int)))], []⟩ : AState)) (fun z => b.length = z + 1) ?_ ?_
  · refine q_region hG ?_ ?_ -- R1
    · trivial
    show ∃ z, _
    simp only [ml0, ml1, Nat.reduceLT, Nat.reduceEqDiff, Nat.reduceAdd, Nat.reduceMul, Nat.reduceSub, Nat.reduceLeDiff, Nat.reduceBEq, Nat.reduceBNe, reduceIte, reduceDIte, reduceCtorEq]
    exact D.len_pred hC.2.2.1 hC.2.2.2
  rintro n hn
  try dsimp only at hn
  obtain ⟨c1, c2, c3, c4⟩ := hC
  have c4 : List.length a + List.length b + 2 < 1000000000000 := c4
  have hp := (D.valL_pos c2).2 c3
  have hwn : IntKind.i64.wrap ((n : Int) - 1) = (n : Int) - 1 := wi (by omega) (by omega)
  refine r_seq ?_
  refine r_seq ?_
  refine q_region hG ?_ ?_ -- R2
  · trivial
  refine k_seq ?_
  refine q_cond ?_ ?_
  · intro hb0
    try simp only [decide_eq_true_eq] at hb0
    refine r_seq ?_
    refine q_region hG ?_ ?_ -- R3
    · try simp only [and_true, true_and]
      unfold Cm.Roomy; omega
    refine k_seq ?_
    refine r_ret ?_
    refine k_seq_ret ?_
    refine ⟨[23], ?_⟩
    simp only [hT, tab310, mr0, mr1, mr2, Nat.reduceLT, Nat.reduceEqDiff, Nat.reduceAdd, Nat.reduceMul, Nat.reduceSub, Nat.reduceLeDiff, Nat.reduceBEq, Nat.reduceBNe, reduceIte, reduceDIte, reduceCtorEq]
    exact D.div_small c1 c2 c3 hn (by omega)
  · intro hb0
    simp only [decide_eq_false_iff_not] at hb0
    have hwl : IntKind.i64.wrap ((List.length a : Int) - (n : Int)) = ((List.length a - n : Nat) : Int) := by rw [wi (by omega) (by omega)]; omega
    refine r_skip ?_
    refine k_seq ?_
    refine r_seq ?_
    refine q_region hG ?_ ?_ -- R4
    · try simp only [and_true, true_and]
      rw [hwl]
      exact ⟨by omega, by omega, by unfold Cm.Roomy; omega⟩
    refine k_seq ?_
    refine r_seq ?_
    refine q_region hG ?_ ?_ -- R5
    · try simp only [and_true, true_and]
      rw [hwl, Int.toNat_natCast, Int.toNat_natCast, List.take_length, List.length_drop]
      exact ⟨⟨by omega, by omega, Int.le_refl _⟩, by unfold Cm.Roomy; omega⟩
    refine k_seq ?_
    refine r_seq ?_
    refine r_seq ?_
    refine q_region hG ?_ ?_ -- R6
    · trivial
    refine k_seq ?_
    refine j_block ?_
    refine r_freeze [31] (by simp only [hT, tab310, mr0, mr1, mr2, Nat.reduceLT, Nat.reduceEqDiff, Nat.reduceAdd, Nat.reduceMul, Nat.reduceSub, Nat.reduceLeDiff, Nat.reduceBEq, Nat.reduceBNe, reduceIte, reduceDIte, reduceCtorEq]; rfl) ?_
    refine j_loop (fun (z : Nat × List Int × List Int) => (⟨[(0, .l (.z (.slice (.int .i64)) a)), (1, .l (.z (.slice (.int .i64)) b)), (6, .l (.z (.int .i64) (n : Int))), (7, .l (.ownS 30)), (8, .l (.z (.slice (.int .i64)) z.2.2)), (9, .l (.z (.int .i64) ((z.1 : Int) - 1)))], [(30, .arr (.int .i64) 3 z.2.1)]⟩ : AState)) (fun z => D.DivPhi a b z.1 z.2.1 z.2.2) (fun z => z.1) (List.length a - n, List.replicate (List.length a - n) 0, List.drop (List.length a - n) a) ?_ ?_ ?_
    · simp only [ml0, ml1, Nat.reduceLT, Nat.reduceEqDiff, Nat.reduceAdd, Nat.reduceMul, Nat.reduceSub, Nat.reduceLeDiff, Nat.reduceBEq, Nat.reduceBNe, reduceIte, reduceDIte, reduceCtorEq]
      rw [hwl, Int.toNat_natCast, Int.toNat_natCast, List.take_length, List.length_replicate]
      exact ⟨rfl, wi (by omega) (by omega), rfl⟩
    · exact D.div_start c1 c2 c3 hn (by omega)
    · rintro ⟨k, q, rest⟩ hz
      try dsimp only at hz
      have hz1 := hz.hk
      have hz2 := hz.hq
      refine r_seq ?_
      refine r_seq ?_
      refine q_region hG ?_ ?_ -- R7
      · trivial
      refine k_seq ?_
      refine q_cond ?_ ?_
      · intro hb1
        try simp only [decide_eq_true_eq] at hb1
        obtain ⟨i, rfl⟩ : ∃ i, k = i + 1 := ⟨k - 1, by omega⟩
        have ei : ((i + 1 : Nat) : Int) - 1 = (i : Int) := by omega
        rw [ei]
        have hrsl := D.rest_len c2 c3 hz.hr
        refine r_skip ?_
        refine k_seq ?_
        refine r_seq ?_
        refine j_block ?_
        refine r_cut (fun (z : Unit) => (⟨[(0, .l (.z (.slice (.int .i64)) a)), (1, .l (.z (.slice (.int .i64)) b)), (6, .l (.z (.int .i64) (n : Int))), (7, .l (.ownS 30)), (8, .l (.z (.slice (.int .i64)) (D.limbs (D.R1 a b i).toNat))), (9, .l (.z (.int .i64) (i : Int)))], [(30, .arr (.int .i64) 3 q)]⟩ : AState)) (fun z => True) ?_ ?_
        · refine q_region hG ?_ ?_ -- R9
          · try simp only [and_true, true_and]
            exact ⟨⟨by omega, by omega⟩, by unfold Cm.Roomy; omega, (D.cons_limbs c1.1 hp hz.hr).1, by unfold CAP; omega⟩
          show ∃ z, _
          simp only [ml0, ml1, Nat.reduceLT, Nat.reduceEqDiff, Nat.reduceAdd, Nat.reduceMul, Nat.reduceSub, Nat.reduceLeDiff, Nat.reduceBEq, Nat.reduceBNe, reduceIte, reduceDIte, reduceCtorEq]
          rw [D.nth64, (D.cons_limbs c1.1 hp hz.hr).2]
        rintro ⟨⟩ hu
        try dsimp only at hu
        have hrl := D.r1_len (i := i) c1.1 c2 c3 hn
        have hrf := D.r1_facts (i := i) c1.1 hp
        have hrc := D.limbs_can (D.R1 a b i).toNat
        have hdn := D.div_next (d := (D.R1 a b i / D.valL b)) c1.1 c2 c3 hz rfl
        refine r_seq ?_
        refine q_region hG ?_ ?_ -- R10
        · trivial
        refine k_seq ?_
        refine r_seq ?_
        refine r_seq ?_
        refine q_region hG ?_ ?_ -- R11
        · trivial
        refine k_seq ?_
        refine j_block ?_
        refine j_loop (fun (z : Nat × Int × Int) => (⟨[(0, .l (.z (.slice (.int .i64)) a)), (1, .l (.z (.slice (.int .i64)) b)), (6, .l (.z (.int .i64) (n : Int))), (7, .l (.ownS 30)), (8, .l (.z (.slice (.int .i64)) (D.limbs (D.R1 a b i).toNat))), (9, .l (.z (.int .i64) (i : Int))), (10, .l (.z (.int .i64) z.2.1)), (11, .l (.z (.int .i64) z.2.2)), (12, .l (.z (.int .i64) ((z.1 : Int) - 1)))], [(30, .arr (.int .i64) 3 q)]⟩ : AState)) (fun z => D.TopPhi (D.limbs (D.R1 a b i).toNat) b n z.1 z.2.1 z.2.2) (fun z => z.1) (n + 2, 0, 0) ?_ ?_ ?_
        · simp only [ml0, ml1, Nat.reduceLT, Nat.reduceEqDiff, Nat.reduceAdd, Nat.reduceMul, Nat.reduceSub, Nat.reduceLeDiff, Nat.reduceBEq, Nat.reduceBNe, reduceIte, reduceDIte, reduceCtorEq]
          rw [wi (by omega) (by omega)]
          show (n : Int) + 1 = ((n + 2 : Nat) : Int) - 1
          omega
        · exact D.top_start hrl hn
        · rintro ⟨j, top, first⟩ hj
          try dsimp only at hj
          have hj1 := hj.hj
          refine r_seq ?_
          refine r_seq ?_
          refine q_region hG ?_ ?_ -- R12
          · trivial
          refine k_seq ?_
          refine q_cond ?_ ?_
          · intro hb2
            simp only [decide_eq_true_eq] at hb2
            rw [hwn] at hb2
            obtain ⟨j, rfl⟩ : ∃ j2, j = j2 + 1 := ⟨j - 1, by omega⟩
            have ej : ((j + 1 : Nat) : Int) - 1 = (j : Int) := by omega
            rw [ej]
            have htv := D.top_vals hrc.1 hrl c2.1 hn hj (by omega)
            refine r_skip ?_
            refine k_seq ?_
            refine r_seq ?_
            refine j_block ?_
            refine r_seq ?_
            refine q_region hG ?_ ?_ -- R14
            · trivial
            refine k_seq ?_
            refine r_cut (fun (z : Unit) => (⟨[(0, .l (.z (.slice (.int .i64)) a)), (1, .l (.z (.slice (.int .i64)) b)), (6, .l (.z (.int .i64) (n : Int))), (7, .l (.ownS 30)), (8, .l (.z (.slice (.int .i64)) (D.limbs (D.R1 a b i).toNat))), (9, .l (.z (.int .i64) (i : Int))), (10, .l (.z (.int .i64) top)), (11, .l (.z (.int .i64) (D.valL (List.drop j (D.limbs (D.R1 a b i).toNat))))), (12, .l (.z (.int .i64) (j : Int)))], [(30, .arr (.int .i64) 3 q)]⟩ : AState)) (fun z => True) ?_ ?_
            · refine r_seq ?_
              refine q_region hG ?_ ?_ -- R15
              · trivial
              refine k_seq ?_
              refine q_cond ?_ ?_
              · intro hb3
                try simp only [decide_eq_true_eq, decide_eq_false_iff_not, beq_iff_eq, bne_iff_ne, Bool.not_eq_true', Bool.and_eq_true] at hb3
                refine q_region hG ?_ ?_ -- R16
                · try simp only [and_true, true_and]
                  exact ⟨by omega, hb3⟩
                show ∃ z, _
                simp only [ml0, ml1, Nat.reduceLT, Nat.reduceEqDiff, Nat.reduceAdd, Nat.reduceMul, Nat.reduceSub, Nat.reduceLeDiff, Nat.reduceBEq, Nat.reduceBNe, reduceIte, reduceDIte, reduceCtorEq]
                first | (rw [D.nth64, htv.1, htv.2.1]; exact htv.2.2.2.2.1) | (rw [htv.1]; have h9 := htv.2.2.2.2.1; rw [D.getD_none (by omega), Int.add_zero] at h9; exact h9)
              · intro hb3
                try simp only [decide_eq_true_eq, decide_eq_false_iff_not, beq_eq_false_iff_ne, bne_eq_false_iff_eq, Bool.not_eq_false', Bool.and_eq_false_imp] at hb3
                refine r_skip ?_
                show ∃ z, _
                simp only [ml0, ml1, Nat.reduceLT, Nat.reduceEqDiff, Nat.reduceAdd, Nat.reduceMul, Nat.reduceSub, Nat.reduceLeDiff, Nat.reduceBEq, Nat.reduceBNe, reduceIte, reduceDIte, reduceCtorEq]
                first | (rw [D.nth64, htv.1, htv.2.1]; exact htv.2.2.2.2.1) | (rw [htv.1]; have h9 := htv.2.2.2.2.1; rw [D.getD_none (by omega), Int.add_zero] at h9; exact h9)
            rintro ⟨⟩ hu2
            try dsimp only at hu2
            refine r_seq ?_
            refine q_region hG ?_ ?_ -- R17
            · trivial
            refine k_seq ?_
            refine q_cond ?_ ?_
            · intro hb4
              try simp only [decide_eq_true_eq, decide_eq_false_iff_not, beq_iff_eq, bne_iff_ne, Bool.not_eq_true', Bool.and_eq_true] at hb4
              refine q_region hG ?_ ?_ -- R18
              · try simp only [and_true, true_and]
                exact ⟨by omega, by omega⟩
              refine k_block ?_
              refine k_seq ?_
              refine q_region hG ?_ ?_ -- R13
              · trivial
              show ∃ z, _
              simp only [ml0, ml1, Nat.reduceLT, Nat.reduceEqDiff, Nat.reduceAdd, Nat.reduceMul, Nat.reduceSub, Nat.reduceLeDiff, Nat.reduceBEq, Nat.reduceBNe, reduceIte, reduceDIte, reduceCtorEq]
              first | exact ⟨j, wi (by omega) (by omega), ⟨by omega, by rw [D.nth64, htv.2.2.1, htv.2.2.2.1]; exact htv.2.2.2.2.2.1 (by omega), rfl⟩, by omega⟩ | exact ⟨j, wi (by omega) (by omega), ⟨by omega, htv.2.2.2.2.2.2 (by omega), rfl⟩, by omega⟩
            · intro hb4
              try simp only [decide_eq_true_eq, decide_eq_false_iff_not, beq_eq_false_iff_ne, bne_eq_false_iff_eq, Bool.not_eq_false', Bool.and_eq_false_imp] at hb4
              refine r_skip ?_
              refine k_block ?_
              refine k_seq ?_
              refine q_region hG ?_ ?_ -- R13
              · trivial
              show ∃ z, _
              simp only [ml0, ml1, Nat.reduceLT, Nat.reduceEqDiff, Nat.reduceAdd, Nat.reduceMul, Nat.reduceSub, Nat.reduceLeDiff, Nat.reduceBEq, Nat.reduceBNe, reduceIte, reduceDIte, reduceCtorEq]
              first | exact ⟨j, wi (by omega) (by omega), ⟨by omega, by rw [D.nth64, htv.2.2.1, htv.2.2.2.1]; exact htv.2.2.2.2.2.1 (by omega), rfl⟩, by omega⟩ | exact ⟨j, wi (by omega) (by omega), ⟨by omega, htv.2.2.2.2.2.2 (by omega), rfl⟩, by omega⟩
          · intro hb2
            simp only [decide_eq_false_iff_not] at hb2
            rw [hwn] at hb2
            obtain rfl : j = n - 1 := by omega
            obtain ⟨hs1, hs2, hs3, hs4, hs5⟩ := D.half_start c1.1 c2 c3 hn hj.ht hj.hf
            have hqf := D.quo_facts hs1 hs2 hs3 hs4
            refine r_exit ?_
            refine k_seq_exit ?_
            refine k_round_exit ?_
            refine k_block_exit ?_
            refine k_seq ?_
            refine r_cut (fun (z : Unit) => (⟨[(0, .l (.z (.slice (.int .i64)) a)), (1, .l (.z (.slice (.int .i64)) b)), (6, .l (.z (.int .i64) (n : Int))), (7, .l (.ownS 30)), (8, .l (.z (.slice (.int .i64)) (D.limbs (D.R1 a b i).toNat))), (9, .l (.z (.int .i64) (i : Int))), (13, .l (.z (.int .i64) (first / (top + 1)))), (14, .l (.z (.int .i64) (first / top)))], [(30, .arr (.int .i64) 3 q)]⟩ : AState)) (fun z => True) ?_ ?_
            · refine q_draw hG ?_ ?_ -- R19
              · try simp only [and_true, true_and]
                rw [hqf.1]
                exact ⟨hqf.2.1, hqf.2.2.1⟩
              show ∃ z, _
              simp only [ml0, ml1, Nat.reduceLT, Nat.reduceEqDiff, Nat.reduceAdd, Nat.reduceMul, Nat.reduceSub, Nat.reduceLeDiff, Nat.reduceBEq, Nat.reduceBNe, reduceIte, reduceDIte, reduceCtorEq]
              rw [hqf.1]
              exact ⟨hqf.2.2.2.1, hqf.2.2.2.2⟩
            rintro ⟨⟩ hu3
            try dsimp only at hu3
            refine r_seq ?_
            refine j_block ?_
            refine j_loop (fun (z : Int × Int) => (⟨[(0, .l (.z (.slice (.int .i64)) a)), (1, .l (.z (.slice (.int .i64)) b)), (6, .l (.z (.int .i64) (n : Int))), (7, .l (.ownS 30)), (8, .l (.z (.slice (.int .i64)) (D.limbs (D.R1 a b i).toNat))), (9, .l (.z (.int .i64) (i : Int))), (13, .l (.z (.int .i64) z.1)), (14, .l (.z (.int .i64) z.2))], [(30, .arr (.int .i64) 3 q)]⟩ : AState)) (fun z => D.HalfPhi (D.R1 a b i / D.valL b) z.1 z.2) (fun z => (z.2 - z.1).toNat) (first / (top + 1), first / top) ?_ ?_ ?_
            · simp only [ml0, ml1, Nat.reduceLT, Nat.reduceEqDiff, Nat.reduceAdd, Nat.reduceMul, Nat.reduceSub, Nat.reduceLeDiff, Nat.reduceBEq, Nat.reduceBNe, reduceIte, reduceDIte, reduceCtorEq]
            · exact hs5
            · rintro ⟨low, high⟩ hh
              try dsimp only at hh
              refine r_seq ?_
              refine r_seq ?_
              refine q_region hG ?_ ?_ -- R20
              · trivial
              refine k_seq ?_
              refine q_cond ?_ ?_
              · intro hb5
                try simp only [decide_eq_true_eq] at hb5
                have hhm := D.half_mid hh hb5
                refine r_skip ?_
                refine k_seq ?_
                refine j_block ?_
                refine r_cut (fun (z : Int) => (⟨[(0, .l (.z (.slice (.int .i64)) a)), (1, .l (.z (.slice (.int .i64)) b)), (6, .l (.z (.int .i64) (n : Int))), (7, .l (.ownS 30)), (8, .l (.z (.slice (.int .i64)) (D.limbs (D.R1 a b i).toNat))), (9, .l (.z (.int .i64) (i : Int))), (13, .l (.z (.int .i64) low)), (14, .l (.z (.int .i64) high)), (15, .l (.z (.int .i64) z))], [(30, .arr (.int .i64) 3 q)]⟩ : AState)) (fun z => z = (low + high + 1) / 2) ?_ ?_
                · refine q_region hG ?_ ?_ -- R21
                  · try simp only [and_true, true_and]
                    decide
                  show ∃ z, _
                  simp only [ml0, ml1, Nat.reduceLT, Nat.reduceEqDiff, Nat.reduceAdd, Nat.reduceMul, Nat.reduceSub, Nat.reduceLeDiff, Nat.reduceBEq, Nat.reduceBNe, reduceIte, reduceDIte, reduceCtorEq]
                  exact hhm.1
                rintro mid hmid
                try dsimp only at hmid
                have hmm : low < mid ∧ mid ≤ high := by rw [hmid]; exact ⟨hhm.2.1, hhm.2.2.1⟩
                have hm0 : 0 ≤ mid := Int.le_trans hh.h0 (Int.le_of_lt hmm.1)
                have hmB : mid ≤ D.LB := Int.le_trans hmm.2 hh.h3
                have hht := D.half_test (v := D.R1 a b i) (mid := mid) c2.1 hp hrf.1 hm0
                have hol := D.one_len c2.1 hm0 hmB
                refine r_seq ?_
                refine q_region hG ?_ ?_ -- R22
                · try simp only [and_true, true_and]
                  exact ⟨⟨c2.1, D.wid_one hm0 hmB, by unfold CAP; omega⟩, D.limbs_can _, hrc, by unfold CAP; omega, by unfold CAP; omega⟩
                refine k_seq ?_
                refine q_cond ?_ ?_
                · intro hb6
                  try simp only [decide_eq_true_eq, decide_eq_false_iff_not, beq_iff_eq, bne_iff_ne, Bool.not_eq_true', Bool.and_eq_true] at hb6
                  refine q_region hG ?_ ?_ -- R23
                  · trivial
                  refine k_block ?_
                  show ∃ z, _
                  simp only [ml0, ml1, Nat.reduceLT, Nat.reduceEqDiff, Nat.reduceAdd, Nat.reduceMul, Nat.reduceSub, Nat.reduceLeDiff, Nat.reduceBEq, Nat.reduceBNe, reduceIte, reduceDIte, reduceCtorEq]
                  first | exact D.half_up hh hmm (hht.1 hb6) | (rw [show IntKind.i64.wrap (mid - 1) = mid - 1 by rw [hmid]; exact hhm.2.2.2]; exact D.half_down hh hmm (fun h => hb6 (hht.2 h)))
                · intro hb6
                  try simp only [decide_eq_true_eq, decide_eq_false_iff_not, beq_eq_false_iff_ne, bne_eq_false_iff_eq, Bool.not_eq_false', Bool.and_eq_false_imp] at hb6
                  refine q_region hG ?_ ?_ -- R24
                  · trivial
                  refine k_block ?_
                  show ∃ z, _
                  simp only [ml0, ml1, Nat.reduceLT, Nat.reduceEqDiff, Nat.reduceAdd, Nat.reduceMul, Nat.reduceSub, Nat.reduceLeDiff, Nat.reduceBEq, Nat.reduceBNe, reduceIte, reduceDIte, reduceCtorEq]
                  first | exact D.half_up hh hmm (hht.1 hb6) | (rw [show IntKind.i64.wrap (mid - 1) = mid - 1 by rw [hmid]; exact hhm.2.2.2]; exact D.half_down hh hmm (fun h => hb6 (hht.2 h)))
              · intro hb5
                simp only [decide_eq_false_iff_not] at hb5
                have hle := D.half_end hh hb5
                subst hle
                have hol := D.one_len c2.1 hdn.1 (Int.le_of_lt hdn.2.1)
                have hrm := D.rest_minus (i := i) c1.1 c2 c3
                refine r_exit ?_
                refine k_seq_exit ?_
                refine k_round_exit ?_
                refine k_block_exit ?_
                refine k_seq ?_
                refine r_seq ?_
                refine q_region hG ?_ ?_ -- R25
                · try simp only [and_true, true_and]
                  exact ⟨⟨by omega, by omega⟩, by omega⟩
                refine k_seq ?_
                refine r_seq ?_
                refine q_region hG ?_ ?_ -- R26
                · trivial
                refine k_seq ?_
                refine q_cond ?_ ?_
                · intro hb7
                  try simp only [decide_eq_true_eq, decide_eq_false_iff_not, beq_iff_eq, bne_iff_ne, Bool.not_eq_true', Bool.and_eq_true] at hb7
                  refine q_region hG ?_ ?_ -- R27
                  · try simp only [and_true, true_and]
                    exact ⟨⟨c2.1, D.wid_one hdn.1 (Int.le_of_lt hdn.2.1), by unfold CAP; omega⟩, hrc, D.limbs_can _, hrm.1, by unfold CAP; omega⟩
                  refine k_block ?_
                  refine k_seq ?_
                  refine q_region hG ?_ ?_ -- R8
                  · trivial
                  show ∃ z, _
                  simp only [ml0, ml1, Nat.reduceLT, Nat.reduceEqDiff, Nat.reduceAdd, Nat.reduceMul, Nat.reduceSub, Nat.reduceLeDiff, Nat.reduceBEq, Nat.reduceBNe, reduceIte, reduceDIte, reduceCtorEq]
                  have hdx := hdn.2.2
                  first | (rw [← hrm.2] at hdx; exact ⟨i, wi (by omega) (by omega), by rw [Int.toNat_natCast]; exact hdx, by omega⟩) | (rw [← D.rest_zero c1.1 c2 c3 hb7] at hdx; exact ⟨i, wi (by omega) (by omega), by rw [Int.toNat_natCast]; exact hdx, by omega⟩)
                · intro hb7
                  try simp only [decide_eq_true_eq, decide_eq_false_iff_not, beq_eq_false_iff_ne, bne_eq_false_iff_eq, Bool.not_eq_false', Bool.and_eq_false_imp] at hb7
                  refine r_skip ?_
                  refine k_block ?_
                  refine k_seq ?_
                  refine q_region hG ?_ ?_ -- R8
                  · trivial
                  show ∃ z, _
                  simp only [ml0, ml1, Nat.reduceLT, Nat.reduceEqDiff, Nat.reduceAdd, Nat.reduceMul, Nat.reduceSub, Nat.reduceLeDiff, Nat.reduceBEq, Nat.reduceBNe, reduceIte, reduceDIte, reduceCtorEq]
                  have hdx := hdn.2.2
                  first | (rw [← hrm.2] at hdx; exact ⟨i, wi (by omega) (by omega), by rw [Int.toNat_natCast]; exact hdx, by omega⟩) | (rw [← D.rest_zero c1.1 c2 c3 hb7] at hdx; exact ⟨i, wi (by omega) (by omega), by rw [Int.toNat_natCast]; exact hdx, by omega⟩)
      · intro hb1
        simp only [decide_eq_false_iff_not] at hb1
        obtain rfl : k = 0 := by omega
        have hde := D.div_end hz
        refine r_exit ?_
        refine k_seq_exit ?_
        refine k_round_exit ?_
        refine k_block_exit ?_
        refine k_seq ?_
        refine r_seq ?_
        refine q_region hG ?_ ?_ -- R28
        · try simp only [and_true, true_and]
          exact ⟨hz.hl, by unfold CAP; omega⟩
        refine k_seq ?_
        refine r_ret ?_
        refine ⟨[23], ?_⟩
        simp only [hT, tab310, mr0, mr1, mr2, Nat.reduceLT, Nat.reduceEqDiff, Nat.reduceAdd, Nat.reduceMul, Nat.reduceSub, Nat.reduceLeDiff, Nat.reduceBEq, Nat.reduceBNe, reduceIte, reduceDIte, reduceCtorEq]
        exact hde

end Go.Proofs.YtkgbdpmhdplddaaGreatDoor
end

section
/- The functions of the package exact, one after the other: each meets its contract. -/
set_option linter.unusedSimpArgs false
set_option linter.unusedVariables false
set_option maxRecDepth 100000
namespace Go.Proofs.YtkgbdpmhdplddaaGreatDoor
open Go Go.Cm Go.Proofs

def tab316 (B : Base) : Tab := { types := [(3, (.int .i64)), (4, .bool), (9, .str), (76, (.slice (.int .i64)))], elems := [], cons := [(34, cRNegative), (43, cRLittle), (44, cROf), (45, cRWrite), (47, cRRead), (62, cRCompare), (63, cRPlus), (64, cRMinus)], hint := [], N := 53, base := B }
theorem good316 {B : Base} (hB : Tabs B) : MGood Tryz.prog (tab316 B) := ⟨⟨types_cons ty3 (types_cons ty4 (types_cons ty9 (types_cons ty76 (types_nil)))), elems_nil, by simp only [tab316, ioB]; omega⟩, cons_ok (cals_cons (cal_ok Tryz.func34 (by kernel_rfl) rfl (valid311 hB)) (cals_cons (cal_ok Tryz.func43 (by kernel_rfl) rfl (valid312 hB)) (cals_cons (cal_ok Tryz.func44 (by kernel_rfl) rfl (valid321 hB)) (cals_cons (cal_ok Tryz.func45 (by kernel_rfl) rfl (valid305 hB)) (cals_cons (cal_ok Tryz.func47 (by kernel_rfl) rfl (valid303 hB)) (cals_cons (cal_ok Tryz.func62 (by kernel_rfl) rfl (valid306 hB)) (cals_cons (cal_ok Tryz.func63 (by kernel_rfl) rfl (valid307 hB)) (cals_cons (cal_ok Tryz.func64 (by kernel_rfl) rfl (valid308 hB)) (cals_nil))))))))), by kernel_rfl⟩
def cRAdd : Con := fun l os => match l, os with
  | [.z .str a, .z .str b], [] => some (RS 20000000000 a ∧ RS 20000000000 b, [.z .str (Lib.itoa (numI a + numI b))], [])
  | _, _ => none

theorem valid316 {B : Base} (hB : Tabs B) : Valid B Tryz.prog 35 cRAdd := by
  refine valid_of_J (T := tab316 B) (good316 hB).tab Tryz.func35 rfl rfl rfl ?_
  intro args os C rs os' hc hC
  unfold cRAdd at hc
  split at hc
  case h_2 => cases hc
  rename_i a b
  cases hc
  refine ⟨by simp only [List.length_cons, List.length_nil, tab316]; omega, rfl, ?_⟩
  intro X hP hT hr
  have hG : MGood X.P X.T := by rw [hP, hT]; exact good316 hB
  unfold tab316 at hT
  have hX := And.intro (@cRLittle.eq_1) <| And.intro (@cROf.eq_1) <| And.intro (@cRRead.eq_1) <| And.intro (@cRNegative.eq_1) <| And.intro (@cRPlus.eq_1) <| And.intro (@cRWrite.eq_1) <| And.intro (@cRCompare.eq_1) <| @cRMinus.eq_1
  simp only [Tryz.f35, argEnv, ioList, ioB]
  refine r_seq ?_
  refine q_region hG ?_ ?_ -- R0
  · trivial
  refine k_seq ?_
  refine r_seq ?_
  refine r_seq ?_
  refine q_region hG ?_ ?_ -- R1
  · try simp only [and_true, true_and]
    exact ⟨hC.1.1, hC.2.1, (hC.1.cap (by omega)).2, (hC.2.cap (by omega)).2⟩
  refine k_seq ?_
  refine r_seq ?_
  refine q_region hG ?_ ?_ -- R2
  · trivial
  refine k_seq ?_
  refine q_cond ?_ ?_
  · intro hb0
    simp only [decide_eq_true_eq] at hb0
    have hsm := radd_small hC.1.1 hC.2.1 hb0
    rw [if_pos hb0, if_pos hb0]
    refine r_seq ?_
    refine q_region hG ?_ ?_ -- R3
    · try simp only [and_true, true_and]
      rw [hsm.1]; exact hsm.2.1
    refine k_seq ?_
    refine r_ret ?_
    refine k_seq_ret ?_
    refine ⟨[], ?_⟩
    simp only [hT, tab316, mr0, mr1, mr2, Nat.reduceLT, Nat.reduceEqDiff, Nat.reduceAdd, Nat.reduceMul, Nat.reduceSub, Nat.reduceLeDiff, Nat.reduceBEq, Nat.reduceBNe, reduceIte, reduceDIte, reduceCtorEq]
    rw [hsm.1]
  · intro hb0
    have ha := hC.1.cap (by omega)
    have hb := hC.2.cap (by omega)
    have la := lm_facts hC.1
    have lb := lm_facts hC.2
    have hle := rs_lens hC.1 hC.2
    have hcap : CAP = 1000000000000 := rfl
    refine r_skip ?_
    refine k_seq ?_
    refine r_seq ?_
    refine q_region hG ?_ ?_ -- R4
    · try simp only [and_true, true_and]
      exact ⟨ha, hb⟩
    refine k_seq ?_
    refine r_seq ?_
    refine r_seq ?_
    refine q_region hG ?_ ?_ -- R5
    · try simp only [and_true, true_and]
      exact ⟨ha.1, hb.1⟩
    refine k_seq ?_
    refine q_cond ?_ ?_
    · intro hb1
      try simp only [decide_eq_true_eq, decide_eq_false_iff_not, beq_iff_eq, bne_iff_ne, Bool.not_eq_true', Bool.and_eq_true] at hb1
      refine r_seq ?_
      refine q_region hG ?_ ?_ -- R6
      · try simp only [and_true, true_and]
        exact ⟨ha.1, ⟨la.1, lb.1, by omega, by omega⟩, D.limbs_can _, hle.1⟩
      refine k_seq ?_
      refine r_ret ?_
      refine k_seq_ret ?_
      refine ⟨[], ?_⟩
      simp only [hT, tab316, mr0, mr1, mr2, Nat.reduceLT, Nat.reduceEqDiff, Nat.reduceAdd, Nat.reduceMul, Nat.reduceSub, Nat.reduceLeDiff, Nat.reduceBEq, Nat.reduceBNe, reduceIte, reduceDIte, reduceCtorEq]
      exact radd_same hb1
    · intro hb1
      try simp only [decide_eq_true_eq, decide_eq_false_iff_not, beq_eq_false_iff_ne, bne_eq_false_iff_eq, Bool.not_eq_false', Bool.and_eq_false_imp] at hb1
      refine r_skip ?_
      refine k_seq ?_
      refine r_seq ?_
      refine r_seq ?_
      refine q_region hG ?_ ?_ -- R7
      · try simp only [and_true, true_and]
        exact ⟨la.1, lb.1, by omega, by omega⟩
      refine k_seq ?_
      refine q_cond ?_ ?_
      · intro hb2
        try simp only [decide_eq_true_eq, decide_eq_false_iff_not, beq_iff_eq, bne_iff_ne, Bool.not_eq_true', Bool.and_eq_true] at hb2
        refine r_seq ?_
        refine q_region hG ?_ ?_ -- R8
        · try simp only [and_true, true_and]
          have hge := radd_ge hb1 hb2
          exact ⟨ha.1, ⟨la.1, lb.1, hge.1, by omega⟩, D.limbs_can _, hle.2.1⟩
        refine k_seq ?_
        refine r_ret ?_
        refine k_seq_ret ?_
        refine ⟨[], ?_⟩
        simp only [hT, tab316, mr0, mr1, mr2, Nat.reduceLT, Nat.reduceEqDiff, Nat.reduceAdd, Nat.reduceMul, Nat.reduceSub, Nat.reduceLeDiff, Nat.reduceBEq, Nat.reduceBNe, reduceIte, reduceDIte, reduceCtorEq]
        exact (radd_ge hb1 hb2).2
      · intro hb2
        try simp only [decide_eq_true_eq, decide_eq_false_iff_not, beq_eq_false_iff_ne, bne_eq_false_iff_eq, Bool.not_eq_false', Bool.and_eq_false_imp] at hb2
        refine r_skip ?_
        refine k_seq ?_
        refine r_seq ?_
        refine q_region hG ?_ ?_ -- R9
        · try simp only [and_true, true_and]
          have hlt := radd_lt hb1 hb2
          exact ⟨hb.1, ⟨lb.1, la.1, hlt.1, by omega⟩, D.limbs_can _, hle.2.2.1⟩
        refine k_seq ?_
        refine r_ret ?_
        refine ⟨[], ?_⟩
        simp only [hT, tab316, mr0, mr1, mr2, Nat.reduceLT, Nat.reduceEqDiff, Nat.reduceAdd, Nat.reduceMul, Nat.reduceSub, Nat.reduceLeDiff, Nat.reduceBEq, Nat.reduceBNe, reduceIte, reduceDIte, reduceCtorEq]
        exact (radd_lt hb1 hb2).2

def tab317 (B : Base) : Tab := { types := [(9, .str)], elems := [], cons := [(35, cRAdd), (65, cRNeg)], hint := [], N := 9, base := B }
theorem good317 {B : Base} (hB : Tabs B) : MGood Tryz.prog (tab317 B) := ⟨⟨types_cons ty9 (types_nil), elems_nil, by simp only [tab317, ioB]; omega⟩, cons_ok (cals_cons (cal_ok Tryz.func35 (by kernel_rfl) rfl (valid316 hB)) (cals_cons (cal_ok Tryz.func65 (by kernel_rfl) rfl (valid313 hB)) (cals_nil))), by kernel_rfl⟩
def cRSub : Con := fun l os => match l, os with
  | [.z .str a, .z .str b], [] => some (RS 10000000000 a ∧ RS 10000000000 b, [.z .str (Lib.itoa (numI a - numI b))], [])
  | _, _ => none

theorem valid317 {B : Base} (hB : Tabs B) : Valid B Tryz.prog 36 cRSub := by
  refine valid_of_J (T := tab317 B) (good317 hB).tab Tryz.func36 rfl rfl rfl ?_
  intro args os C rs os' hc hC
  unfold cRSub at hc
  split at hc
  case h_2 => cases hc
  rename_i a b
  cases hc
  refine ⟨by simp only [List.length_cons, List.length_nil, tab317]; omega, rfl, ?_⟩
  intro X hP hT hr
  have hG : MGood X.P X.T := by rw [hP, hT]; exact good317 hB
  unfold tab317 at hT
  have hX := And.intro (@cRNeg.eq_1) <| @cRAdd.eq_1
  simp only [Tryz.f36, argEnv, ioList, ioB]
  refine r_seq ?_
  refine q_region hG ?_ ?_ -- R0
  · trivial
  refine k_seq ?_
  refine r_seq ?_
  refine q_region hG ?_ ?_ -- R1
  · try simp only [and_true, true_and]
    have h2 := hC.2.2
    exact ⟨⟨hC.2.1, by have hcap : CAP = 1000000000000 := rfl; omega⟩, hC.1.up (by omega), (neg_rs hC.2).1.up (by omega)⟩
  refine k_seq ?_
  refine r_ret ?_
  refine ⟨[], ?_⟩
  simp only [hT, tab317, mr0, mr1, mr2, Nat.reduceLT, Nat.reduceEqDiff, Nat.reduceAdd, Nat.reduceMul, Nat.reduceSub, Nat.reduceLeDiff, Nat.reduceBEq, Nat.reduceBNe, reduceIte, reduceDIte, reduceCtorEq]
  exact sub_val

def tab318 (B : Base) : Tab := { types := [(3, (.int .i64)), (4, .bool), (9, .str), (76, (.slice (.int .i64)))], elems := [], cons := [(34, cRNegative), (43, cRLittle), (44, cROf), (45, cRWrite), (46, cRTimes), (47, cRRead)], hint := [], N := 31, base := B }
theorem good318 {B : Base} (hB : Tabs B) : MGood Tryz.prog (tab318 B) := ⟨⟨types_cons ty3 (types_cons ty4 (types_cons ty9 (types_cons ty76 (types_nil)))), elems_nil, by simp only [tab318, ioB]; omega⟩, cons_ok (cals_cons (cal_ok Tryz.func34 (by kernel_rfl) rfl (valid311 hB)) (cals_cons (cal_ok Tryz.func43 (by kernel_rfl) rfl (valid312 hB)) (cals_cons (cal_ok Tryz.func44 (by kernel_rfl) rfl (valid321 hB)) (cals_cons (cal_ok Tryz.func45 (by kernel_rfl) rfl (valid305 hB)) (cals_cons (cal_ok Tryz.func46 (by kernel_rfl) rfl (valid309 hB)) (cals_cons (cal_ok Tryz.func47 (by kernel_rfl) rfl (valid303 hB)) (cals_nil))))))), by kernel_rfl⟩
def cRMul : Con := fun l os => match l, os with
  | [.z .str a, .z .str b], [] => some (RS 20000000000 a ∧ RS 20000000000 b, [.z .str (Lib.itoa (numI a * numI b))], [])
  | _, _ => none

theorem valid318 {B : Base} (hB : Tabs B) : Valid B Tryz.prog 18 cRMul := by
  refine valid_of_J (T := tab318 B) (good318 hB).tab Tryz.func18 rfl rfl rfl ?_
  intro args os C rs os' hc hC
  unfold cRMul at hc
  split at hc
  case h_2 => cases hc
  rename_i a b
  cases hc
  refine ⟨by simp only [List.length_cons, List.length_nil, tab318]; omega, rfl, ?_⟩
  intro X hP hT hr
  have hG : MGood X.P X.T := by rw [hP, hT]; exact good318 hB
  unfold tab318 at hT
  have hX := And.intro (@cRLittle.eq_1) <| And.intro (@cROf.eq_1) <| And.intro (@cRRead.eq_1) <| And.intro (@cRNegative.eq_1) <| And.intro (@cRTimes.eq_1) <| @cRWrite.eq_1
  simp only [Tryz.f18, argEnv, ioList, ioB]
  refine r_seq ?_
  refine q_region hG ?_ ?_ -- R0
  · trivial
  refine k_seq ?_
  refine r_seq ?_
  refine r_seq ?_
  refine q_region hG ?_ ?_ -- R1
  · try simp only [and_true, true_and]
    exact ⟨hC.1.1, hC.2.1, (hC.1.cap (by omega)).2, (hC.2.cap (by omega)).2⟩
  refine k_seq ?_
  refine r_seq ?_
  refine q_region hG ?_ ?_ -- R2
  · trivial
  refine k_seq ?_
  refine q_cond ?_ ?_
  · intro hb0
    simp only [decide_eq_true_eq] at hb0
    have hsm := radd_small hC.1.1 hC.2.1 hb0
    rw [if_pos hb0, if_pos hb0]
    refine r_seq ?_
    refine q_region hG ?_ ?_ -- R3
    · try simp only [and_true, true_and]
      rw [hsm.2.2.1]; exact hsm.2.2.2
    refine k_seq ?_
    refine r_ret ?_
    refine k_seq_ret ?_
    refine ⟨[], ?_⟩
    simp only [hT, tab318, mr0, mr1, mr2, Nat.reduceLT, Nat.reduceEqDiff, Nat.reduceAdd, Nat.reduceMul, Nat.reduceSub, Nat.reduceLeDiff, Nat.reduceBEq, Nat.reduceBNe, reduceIte, reduceDIte, reduceCtorEq]
    rw [hsm.2.2.1]
  · intro hb0
    have ha := hC.1.cap (by omega)
    have hb := hC.2.cap (by omega)
    have la := lm_facts hC.1
    have lb := lm_facts hC.2
    have hle := rs_lens hC.1 hC.2
    have hcap : CAP = 1000000000000 := rfl
    refine r_skip ?_
    refine k_seq ?_
    refine r_seq ?_
    refine q_region hG ?_ ?_ -- R4
    · try simp only [and_true, true_and]
      exact ⟨ha.1, hb.1, ha, hb, ⟨la.1.1, lb.1.1.wid, by omega⟩, D.limbs_can _, hle.2.2.2⟩
    refine k_seq ?_
    refine r_ret ?_
    refine ⟨[], ?_⟩
    simp only [hT, tab318, mr0, mr1, mr2, Nat.reduceLT, Nat.reduceEqDiff, Nat.reduceAdd, Nat.reduceMul, Nat.reduceSub, Nat.reduceLeDiff, Nat.reduceBEq, Nat.reduceBNe, reduceIte, reduceDIte, reduceCtorEq]
    exact mul_val

end Go.Proofs.YtkgbdpmhdplddaaGreatDoor
end

section
/- The functions of the package exact, one after the other: each meets its contract. -/
set_option linter.unusedSimpArgs false
set_option linter.unusedVariables false
set_option maxRecDepth 100000
namespace Go.Proofs.YtkgbdpmhdplddaaGreatDoor
open Go Go.Cm Go.Proofs

def tab319 (B : Base) : Tab := { types := [(3, (.int .i64)), (4, .bool), (9, .str), (76, (.slice (.int .i64)))], elems := [], cons := [(18, cRMul), (34, cRNegative), (36, cRSub), (43, cRLittle), (44, cROf), (45, cRWrite), (47, cRRead), (48, cRDivide)], hint := [], N := 78, base := B }
theorem good319 {B : Base} (hB : Tabs B) : MGood Tryz.prog (tab319 B) := ⟨⟨types_cons ty3 (types_cons ty4 (types_cons ty9 (types_cons ty76 (types_nil)))), elems_nil, by simp only [tab319, ioB]; omega⟩, cons_ok (cals_cons (cal_ok Tryz.func18 (by kernel_rfl) rfl (valid318 hB)) (cals_cons (cal_ok Tryz.func34 (by kernel_rfl) rfl (valid311 hB)) (cals_cons (cal_ok Tryz.func36 (by kernel_rfl) rfl (valid317 hB)) (cals_cons (cal_ok Tryz.func43 (by kernel_rfl) rfl (valid312 hB)) (cals_cons (cal_ok Tryz.func44 (by kernel_rfl) rfl (valid321 hB)) (cals_cons (cal_ok Tryz.func45 (by kernel_rfl) rfl (valid305 hB)) (cals_cons (cal_ok Tryz.func47 (by kernel_rfl) rfl (valid303 hB)) (cals_cons (cal_ok Tryz.func48 (by kernel_rfl) rfl (valid310 hB)) (cals_nil))))))))), by kernel_rfl⟩
def cRDiv : Con := fun l os => match l, os with
  | [.z .str a, .z .str b], [] => some (RS 1000000000 a ∧ RS 1000000000 b ∧ numI b ≠ 0, [.z .str (Lib.itoa (floorQ (numI a) (numI b))), .z .str (Lib.itoa (floorR (numI a) (numI b)))], [])
  | _, _ => none

theorem valid319 {B : Base} (hB : Tabs B) : Valid B Tryz.prog 20 cRDiv := by
  refine valid_of_J (T := tab319 B) (good319 hB).tab Tryz.func20 rfl rfl rfl ?_
  intro args os C rs os' hc hC
  unfold cRDiv at hc
  split at hc
  case h_2 => cases hc
  rename_i a b
  cases hc
  refine ⟨by simp only [List.length_cons, List.length_nil, tab319]; omega, rfl, ?_⟩
  intro X hP hT hr
  have hG : MGood X.P X.T := by rw [hP, hT]; exact good319 hB
  unfold tab319 at hT
  have hX := And.intro (@cRLittle.eq_1) <| And.intro (@cROf.eq_1) <| And.intro (@cRRead.eq_1) <| And.intro (@cRDivide.eq_1) <| And.intro (@cRNegative.eq_1) <| And.intro (@cRWrite.eq_1) <| And.intro (@cRSub.eq_1) <| @cRMul.eq_1
  simp only [Tryz.f20, argEnv, ioList, ioB]
  refine r_seq ?_
  refine q_region hG ?_ ?_ -- R0
  · trivial
  refine k_seq ?_
  refine r_seq ?_
  refine r_seq ?_
  refine q_region hG ?_ ?_ -- R1
  · try simp only [and_true, true_and]
    exact ⟨hC.1.1, hC.2.1.1, (hC.1.cap (by omega)).2, (hC.2.1.cap (by omega)).2⟩
  refine k_seq ?_
  refine r_seq ?_
  refine q_region hG ?_ ?_ -- R2
  · trivial
  refine k_seq ?_
  refine q_cond ?_ ?_
  · intro hb0
    simp only [decide_eq_true_eq] at hb0
    rw [if_pos hb0, if_pos hb0]
    have hsm := rdiv_small hC.1.1 hC.2.1.1 hb0 hC.2.2
    refine r_seq ?_
    refine q_region hG ?_ ?_ -- R3
    · try simp only [and_true, true_and]
      exact hC.2.2
    refine k_seq ?_
    refine r_cut (fun (z : Unit) => (⟨[(0, .l (.z .str a)), (1, .l (.z .str b)), (6, .l (.z (.int .i64) (numI a))), (7, .l (.z (.int .i64) (numI b))), (9, .l (.z (.int .i64) (floorQ (numI a) (numI b))))], []⟩ : AState)) (fun z => True) ?_ ?_
    · refine r_seq ?_
      refine q_region hG ?_ ?_ -- R4
      · try simp only [and_true, true_and]
        exact ⟨hC.2.2, fun h => h⟩
      refine k_seq ?_
      refine q_cond ?_ ?_
      · intro hb1
        try simp only [decide_eq_true_eq, decide_eq_false_iff_not, beq_iff_eq, bne_iff_ne, Bool.not_eq_true', Bool.and_eq_true] at hb1
        refine q_region hG ?_ ?_ -- R5
        · trivial
        show ∃ z, _
        simp only [ml0, ml1, Nat.reduceLT, Nat.reduceEqDiff, Nat.reduceAdd, Nat.reduceMul, Nat.reduceSub, Nat.reduceLeDiff, Nat.reduceBEq, Nat.reduceBNe, reduceIte, reduceDIte, reduceCtorEq]
        first | exact hsm.1 hb1 | exact hsm.2.1 hb1
      · intro hb1
        try simp only [decide_eq_true_eq, decide_eq_false_iff_not, beq_eq_false_iff_ne, bne_eq_false_iff_eq, Bool.not_eq_false', Bool.and_eq_false_imp] at hb1
        refine r_skip ?_
        show ∃ z, _
        simp only [ml0, ml1, Nat.reduceLT, Nat.reduceEqDiff, Nat.reduceAdd, Nat.reduceMul, Nat.reduceSub, Nat.reduceLeDiff, Nat.reduceBEq, Nat.reduceBNe, reduceIte, reduceDIte, reduceCtorEq]
        first | exact hsm.1 hb1 | exact hsm.2.1 hb1
    rintro ⟨⟩ hu
    try dsimp only at hu
    refine r_seq ?_
    refine q_region hG ?_ ?_ -- R6
    · try simp only [and_true, true_and]
      rw [hsm.2.2.2.1]; exact ⟨hsm.2.2.1, hsm.2.2.2.2⟩
    refine k_seq ?_
    refine r_ret ?_
    refine k_seq_ret ?_
    refine ⟨[], ?_⟩
    simp only [hT, tab319, mr0, mr1, mr2, Nat.reduceLT, Nat.reduceEqDiff, Nat.reduceAdd, Nat.reduceMul, Nat.reduceSub, Nat.reduceLeDiff, Nat.reduceBEq, Nat.reduceBNe, reduceIte, reduceDIte, reduceCtorEq]
    rw [hsm.2.2.2.1]
  · intro hb0
    obtain ⟨c1, c2, c3⟩ := hC
    have ha := c1.cap (by omega)
    have hb := c2.cap (by omega)
    have la := lm_facts c1
    have lb := lm_facts c2
    have hln := rdiv_len (numI a) (numI b)
    have hrq := rq_rs (b := b) c1 c3
    have hrm := rm_rs c1 c2 c3
    have hcap : CAP = 1000000000000 := rfl
    have hqf := rquo_facts (x := numI a) c3
    refine r_skip ?_
    refine k_seq ?_
    refine r_seq ?_
    refine q_region hG ?_ ?_ -- R7
    · try simp only [and_true, true_and]
      exact ⟨ha, hb, la.1, lb.1, D.ne_limbs c3, by omega⟩
    refine k_seq ?_
    refine r_seq ?_
    refine q_region hG ?_ ?_ -- R8
    · try simp only [and_true, true_and]
      exact ⟨ha.1, hb.1, D.limbs_can _, by omega⟩
    refine k_seq ?_
    refine r_cut (fun (z : Unit) => (⟨[(0, .l (.z .str a)), (1, .l (.z .str b)), (12, .l (.z .str (Lib.itoa (floorQ (numI a) (numI b)))))], []⟩ : AState)) (fun z => True) ?_ ?_
    · refine r_seq ?_
      refine q_region hG ?_ ?_ -- R9
      · try simp only [and_true, true_and]
        exact ⟨fun h => ⟨h, c1.1⟩, fun h => ⟨h, c2.1⟩, fun h => h⟩
      refine k_seq ?_
      refine q_cond ?_ ?_
      · intro hb2
        try simp only [decide_eq_true_eq, decide_eq_false_iff_not, beq_iff_eq, bne_iff_ne, Bool.not_eq_true', Bool.and_eq_true] at hb2
        refine q_region hG ?_ ?_ -- R10
        · try simp only [and_true, true_and]
          exact ⟨hrq.1.up (by omega), rs_one.1.up (by omega)⟩
        show ∃ z, _
        simp only [ml0, ml1, Nat.reduceLT, Nat.reduceEqDiff, Nat.reduceAdd, Nat.reduceMul, Nat.reduceSub, Nat.reduceLeDiff, Nat.reduceBEq, Nat.reduceBNe, reduceIte, reduceDIte, reduceCtorEq]
        rw [rrest_len] at hb2
        first | (rw [← hqf.2.1 hb2, rs_one.2, (form_itoa _).2]; rfl) | (rw [← hqf.2.2 hb2]; rfl)
      · intro hb2
        try simp only [decide_eq_true_eq, decide_eq_false_iff_not, beq_eq_false_iff_ne, bne_eq_false_iff_eq, Bool.not_eq_false', Bool.and_eq_false_imp] at hb2
        refine r_skip ?_
        show ∃ z, _
        simp only [ml0, ml1, Nat.reduceLT, Nat.reduceEqDiff, Nat.reduceAdd, Nat.reduceMul, Nat.reduceSub, Nat.reduceLeDiff, Nat.reduceBEq, Nat.reduceBNe, reduceIte, reduceDIte, reduceCtorEq]
        rw [rrest_len] at hb2
        first | (rw [← hqf.2.1 hb2, rs_one.2, (form_itoa _).2]; rfl) | (rw [← hqf.2.2 hb2]; rfl)
    rintro ⟨⟩ hu2
    try dsimp only at hu2
    refine r_seq ?_
    refine q_region hG ?_ ?_ -- R11
    · try simp only [and_true, true_and]
      rw [(form_itoa _).2]
      exact ⟨⟨hrq.2.up (by omega), c2.up (by omega)⟩, c1.up (by omega), hrm.up (by omega)⟩
    refine k_seq ?_
    refine r_ret ?_
    refine ⟨[], ?_⟩
    simp only [hT, tab319, mr0, mr1, mr2, Nat.reduceLT, Nat.reduceEqDiff, Nat.reduceAdd, Nat.reduceMul, Nat.reduceSub, Nat.reduceLeDiff, Nat.reduceBEq, Nat.reduceBNe, reduceIte, reduceDIte, reduceCtorEq]
    rw [(form_itoa _).2, (form_itoa _).2, Int.mul_comm]; rfl

end Go.Proofs.YtkgbdpmhdplddaaGreatDoor
end

section
/- The functions of the package exact, one after the other: each meets its contract. -/
set_option linter.unusedSimpArgs false
set_option linter.unusedVariables false
set_option maxRecDepth 100000
namespace Go.Proofs.YtkgbdpmhdplddaaGreatDoor
open Go Go.Cm Go.Proofs

def tab320 (B : Base) : Tab := { types := [(3, (.int .i64)), (4, .bool), (9, .str), (76, (.slice (.int .i64)))], elems := [], cons := [(43, cRLittle), (44, cROf), (45, cRWrite), (47, cRRead), (48, cRDivide)], hint := [], N := 50, base := B }
theorem good320 {B : Base} (hB : Tabs B) : MGood Tryz.prog (tab320 B) := ⟨⟨types_cons ty3 (types_cons ty4 (types_cons ty9 (types_cons ty76 (types_nil)))), elems_nil, by simp only [tab320, ioB]; omega⟩, cons_ok (cals_cons (cal_ok Tryz.func43 (by kernel_rfl) rfl (valid312 hB)) (cals_cons (cal_ok Tryz.func44 (by kernel_rfl) rfl (valid321 hB)) (cals_cons (cal_ok Tryz.func45 (by kernel_rfl) rfl (valid305 hB)) (cals_cons (cal_ok Tryz.func47 (by kernel_rfl) rfl (valid303 hB)) (cals_cons (cal_ok Tryz.func48 (by kernel_rfl) rfl (valid310 hB)) (cals_nil)))))), by kernel_rfl⟩
def cRGcd : Con := fun l os => match l, os with
  | [.z .str a, .z .str b], [] => some (RS 1000000000 a ∧ RS 1000000000 b, [.z .str (Lib.itoa (gcdI (numI a) (numI b)))], [])
  | _, _ => none

theorem valid320 {B : Base} (hB : Tabs B) : Valid B Tryz.prog 19 cRGcd := by
  refine valid_of_J (T := tab320 B) (good320 hB).tab Tryz.func19 rfl rfl rfl ?_
  intro args os C rs os' hc hC
  unfold cRGcd at hc
  split at hc
  case h_2 => cases hc
  rename_i a b
  cases hc
  refine ⟨by simp only [List.length_cons, List.length_nil, tab320]; omega, rfl, ?_⟩
  intro X hP hT hr
  have hG : MGood X.P X.T := by rw [hP, hT]; exact good320 hB
  unfold tab320 at hT
  have hX := And.intro (@cRLittle.eq_1) <| And.intro (@cROf.eq_1) <| And.intro (@cRRead.eq_1) <| And.intro (@cRDivide.eq_1) <| @cRWrite.eq_1
  simp only [Tryz.f19, argEnv, ioList, ioB]
  refine r_seq ?_
  refine q_region hG ?_ ?_ -- R0
  · trivial
  refine k_seq ?_
  refine r_seq ?_
  refine r_seq ?_
  refine q_region hG ?_ ?_ -- R1
  · try simp only [and_true, true_and]
    exact ⟨hC.1.1, hC.2.1, (hC.1.cap (by omega)).2, (hC.2.cap (by omega)).2⟩
  refine k_seq ?_
  refine r_seq ?_
  refine q_region hG ?_ ?_ -- R2
  · trivial
  refine k_seq ?_
  refine q_cond ?_ ?_
  · intro hb0
    simp only [decide_eq_true_eq] at hb0
    rw [if_pos hb0, if_pos hb0]
    have ha := small_i64 hC.1.1 hb0.1
    have hb := small_i64 hC.2.1 hb0.2
    refine r_seq ?_
    refine j_block ?_
    refine j_loop (fun (z : Int × Int) => (⟨[(0, .l (.z .str a)), (1, .l (.z .str b)), (5, .l (.z (.int .i64) z.1)), (6, .l (.z (.int .i64) z.2))], []⟩ : AState)) (fun z => RGPhi (gcdI (numI a) (numI b)) z.1 z.2) (fun z => z.2.natAbs) (numI a, numI b) ?_ ?_ ?_
    · simp only [ml0, ml1, Nat.reduceLT, Nat.reduceEqDiff, Nat.reduceAdd, Nat.reduceMul, Nat.reduceSub, Nat.reduceLeDiff, Nat.reduceBEq, Nat.reduceBNe, reduceIte, reduceDIte, reduceCtorEq]
    · exact rg_start ha hb
    · rintro ⟨x, y⟩ hz
      try dsimp only at hz
      refine r_seq ?_
      refine r_seq ?_
      refine q_region hG ?_ ?_ -- R3
      · trivial
      refine k_seq ?_
      refine q_cond ?_ ?_
      · intro hb1
        try simp only [decide_eq_true_eq, decide_eq_false_iff_not, beq_iff_eq, bne_iff_ne, Bool.not_eq_true', Bool.and_eq_true] at hb1
        refine r_skip ?_
        refine k_seq ?_
        refine j_block ?_
        refine r_seq ?_
        refine q_region hG ?_ ?_ -- R4
        · try simp only [and_true, true_and]
          exact hb1
        refine k_seq ?_
        refine r_seq ?_
        refine q_region hG ?_ ?_ -- R5
        · trivial
        refine k_seq ?_
        refine q_region hG ?_ ?_ -- R6
        · trivial
        refine k_block ?_
        show ∃ z, _
        simp only [ml0, ml1, Nat.reduceLT, Nat.reduceEqDiff, Nat.reduceAdd, Nat.reduceMul, Nat.reduceSub, Nat.reduceLeDiff, Nat.reduceBEq, Nat.reduceBNe, reduceIte, reduceDIte, reduceCtorEq]
        exact rg_next hz hb1
      · intro hb1
        try simp only [decide_eq_true_eq, decide_eq_false_iff_not, beq_eq_false_iff_ne, bne_eq_false_iff_eq, Bool.not_eq_false', Bool.and_eq_false_imp] at hb1
        refine r_exit ?_
        refine k_seq_exit ?_
        refine k_round_exit ?_
        refine k_block_exit ?_
        refine k_seq ?_
        refine r_seq ?_
        refine q_region hG ?_ ?_ -- R7
        · try simp only [and_true, true_and]
          subst hb1
          exact (rg_fin hz).1
        refine k_seq ?_
        refine r_ret ?_
        refine k_seq_ret ?_
        refine ⟨[], ?_⟩
        simp only [hT, tab320, mr0, mr1, mr2, Nat.reduceLT, Nat.reduceEqDiff, Nat.reduceAdd, Nat.reduceMul, Nat.reduceSub, Nat.reduceLeDiff, Nat.reduceBEq, Nat.reduceBNe, reduceIte, reduceDIte, reduceCtorEq]
        subst hb1
        rw [(rg_fin hz).2]
  · intro hb0
    obtain ⟨c1, c2⟩ := hC
    have ha := c1.cap (by omega)
    have hb := c2.cap (by omega)
    have la := lm_facts c1
    have lb := lm_facts c2
    have hcap : CAP = 1000000000000 := rfl
    refine r_skip ?_
    refine k_seq ?_
    refine r_seq ?_
    refine q_region hG ?_ ?_ -- R8
    · try simp only [and_true, true_and]
      exact ⟨ha, hb⟩
    refine k_seq ?_
    refine r_seq ?_
    refine j_block ?_
    refine j_loop (fun (z : List Int × List Int) => (⟨[(9, .l (.z (.slice (.int .i64)) z.1)), (10, .l (.z (.slice (.int .i64)) z.2))], []⟩ : AState)) (fun z => RHPhi (gcdI (numI a) (numI b)) z.1 z.2) (fun z => (D.valL z.2).natAbs) (D.limbs (numI a).natAbs, D.limbs (numI b).natAbs) ?_ ?_ ?_
    · simp only [ml0, ml1, Nat.reduceLT, Nat.reduceEqDiff, Nat.reduceAdd, Nat.reduceMul, Nat.reduceSub, Nat.reduceLeDiff, Nat.reduceBEq, Nat.reduceBNe, reduceIte, reduceDIte, reduceCtorEq]
    · exact rh_start c1 c2
    · rintro ⟨x, y⟩ hz
      try dsimp only at hz
      refine r_seq ?_
      refine r_seq ?_
      refine q_region hG ?_ ?_ -- R9
      · trivial
      refine k_seq ?_
      refine q_cond ?_ ?_
      · intro hb2
        try simp only [decide_eq_true_eq, decide_eq_false_iff_not, beq_iff_eq, bne_iff_ne, Bool.not_eq_true', Bool.and_eq_true] at hb2
        refine r_skip ?_
        refine k_seq ?_
        refine j_block ?_
        refine r_seq ?_
        refine q_region hG ?_ ?_ -- R10
        · try simp only [and_true, true_and]
          have lx := hz.lx
          have ly := hz.ly
          exact ⟨hz.hx, hz.hy, (by rintro rfl; simp at hb2), by omega⟩
        refine k_seq ?_
        refine r_seq ?_
        refine q_region hG ?_ ?_ -- R11
        · trivial
        refine k_seq ?_
        refine q_region hG ?_ ?_ -- R12
        · trivial
        refine k_block ?_
        show ∃ z, _
        simp only [ml0, ml1, Nat.reduceLT, Nat.reduceEqDiff, Nat.reduceAdd, Nat.reduceMul, Nat.reduceSub, Nat.reduceLeDiff, Nat.reduceBEq, Nat.reduceBNe, reduceIte, reduceDIte, reduceCtorEq]
        exact rh_next hz hb2
      · intro hb2
        try simp only [decide_eq_true_eq, decide_eq_false_iff_not, beq_eq_false_iff_ne, bne_eq_false_iff_eq, Bool.not_eq_false', Bool.and_eq_false_imp] at hb2
        refine r_exit ?_
        refine k_seq_exit ?_
        refine k_round_exit ?_
        refine k_block_exit ?_
        refine k_seq ?_
        refine r_seq ?_
        refine q_region hG ?_ ?_ -- R13
        · try simp only [and_true, true_and]
          have lx := hz.lx
          exact ⟨hz.hx, by omega⟩
        refine k_seq ?_
        refine r_ret ?_
        refine ⟨[], ?_⟩
        simp only [hT, tab320, mr0, mr1, mr2, Nat.reduceLT, Nat.reduceEqDiff, Nat.reduceAdd, Nat.reduceMul, Nat.reduceSub, Nat.reduceLeDiff, Nat.reduceBEq, Nat.reduceBNe, reduceIte, reduceDIte, reduceCtorEq]
        rw [rh_end hz hb2]

def tab322 (B : Base) : Tab := { types := [(3, (.int .i64)), (5, (.int .u8)), (9, .str)], elems := [], cons := [(33, cRCmp), (34, cRNegative)], hint := [], N := 38, base := B }
theorem good322 {B : Base} (hB : Tabs B) : MGood Tryz.prog (tab322 B) := ⟨⟨types_cons ty3 (types_cons ty5 (types_cons ty9 (types_nil))), elems_nil, by simp only [tab322, ioB]; omega⟩, cons_ok (cals_cons (cal_ok Tryz.func33 (by kernel_rfl) rfl (valid315 hB)) (cals_cons (cal_ok Tryz.func34 (by kernel_rfl) rfl (valid311 hB)) (cals_nil))), by kernel_rfl⟩
def cRInt : Con := fun l os => match l, os with
  | [.z .str a], [] => some (RS 1000000000 a, [.z (.int .i64) (if inI64 (numI a) = true then numI a else 0), .z .bool (inI64 (numI a))], [])
  | _, _ => none

theorem valid322 {B : Base} (hB : Tabs B) : Valid B Tryz.prog 12 cRInt := by
  refine valid_of_J (T := tab322 B) (good322 hB).tab Tryz.func12 rfl rfl rfl ?_
  intro args os C rs os' hc hC
  unfold cRInt at hc
  split at hc
  case h_2 => cases hc
  rename_i a
  cases hc
  refine ⟨by simp only [List.length_cons, List.length_nil, tab322]; omega, rfl, ?_⟩
  intro X hP hT hr
  have hG : MGood X.P X.T := by rw [hP, hT]; exact good322 hB
  unfold tab322 at hT
  have hX := And.intro (@cRCmp.eq_1) <| @cRNegative.eq_1
  simp only [Tryz.f12, argEnv, ioList, ioB]
  refine r_seq ?_
  refine q_region hG ?_ ?_ -- R0
  · trivial
  refine k_seq ?_
  refine r_seq ?_
  refine r_seq ?_
  refine q_region hG ?_ ?_ -- R1
  · try simp only [and_true, true_and]
    have hx := hC.cap (by omega)
    exact ⟨⟨hx, lo_facts.1, by decide⟩, guard_not ⟨hx, hi_facts.1, by decide⟩⟩
  refine k_seq ?_
  refine q_cond ?_ ?_
  · intro hb0
    rw [rint_cond] at hb0
    simp only [Bool.not_eq_true'] at hb0
    refine r_seq ?_
    refine q_region hG ?_ ?_ -- R2
    · trivial
    refine k_seq ?_
    refine r_ret ?_
    refine k_seq_ret ?_
    refine ⟨[], ?_⟩
    simp only [hT, tab322, mr0, mr1, mr2, Nat.reduceLT, Nat.reduceEqDiff, Nat.reduceAdd, Nat.reduceMul, Nat.reduceSub, Nat.reduceLeDiff, Nat.reduceBEq, Nat.reduceBNe, reduceIte, reduceDIte, reduceCtorEq]
    exact rint_out hb0
  · intro hb0
    rw [rint_cond] at hb0
    simp only [Bool.not_eq_false'] at hb0
    have hl := hC.2
    refine r_skip ?_
    refine k_seq ?_
    refine r_seq ?_
    refine q_region hG ?_ ?_ -- R3
    · trivial
    refine k_seq ?_
    refine r_seq ?_
    refine r_seq ?_
    refine q_region hG ?_ ?_ -- R4
    · trivial
    refine k_seq ?_
    refine j_block ?_
    refine j_loop (fun (z : Nat) => (⟨[(0, .l (.z .str a)), (4, .l (.z (.int .i64) (-(numOf (List.take z a) : Int)))), (5, .l (.z (.int .i64) (z : Int)))], []⟩ : AState)) (fun z => z ≤ a.length) (fun z => a.length - z) 0 ?_ ?_ ?_
    · simp only [ml0, ml1, Nat.reduceLT, Nat.reduceEqDiff, Nat.reduceAdd, Nat.reduceMul, Nat.reduceSub, Nat.reduceLeDiff, Nat.reduceBEq, Nat.reduceBNe, reduceIte, reduceDIte, reduceCtorEq]
      exact ⟨rfl, rfl⟩
    · exact Nat.zero_le _
    · rintro k hk
      try dsimp only at hk
      refine r_seq ?_
      refine r_seq ?_
      refine q_region hG ?_ ?_ -- R5
      · trivial
      refine k_seq ?_
      refine q_cond ?_ ?_
      · intro hb1
        try simp only [decide_eq_true_eq] at hb1
        refine r_skip ?_
        refine k_seq ?_
        refine r_seq ?_
        refine j_block ?_
        refine r_seq ?_
        refine q_region hG ?_ ?_ -- R7
        · try simp only [and_true, true_and]
          exact ⟨by omega, hb1⟩
        refine k_seq ?_
        refine q_cond ?_ ?_
        · intro hb2
          try simp only [decide_eq_true_eq, decide_eq_false_iff_not, beq_iff_eq, bne_iff_ne, Bool.not_eq_true', Bool.and_eq_true] at hb2
          refine q_region hG ?_ ?_ -- R8
          · try simp only [and_true, true_and]
            exact ⟨by omega, hb1⟩
          refine k_block ?_
          refine k_seq ?_
          refine q_region hG ?_ ?_ -- R6
          · trivial
          show ∃ z, _
          simp only [ml0, ml1, Nat.reduceLT, Nat.reduceEqDiff, Nat.reduceAdd, Nat.reduceMul, Nat.reduceSub, Nat.reduceLeDiff, Nat.reduceBEq, Nat.reduceBNe, reduceIte, reduceDIte, reduceCtorEq]
          exact ⟨k + 1, by first | exact rint_step hC.1 hb0 hb1 hb2 | exact rint_skip hC.1 hb1 hb2, wi (by omega) (by omega), by omega, by omega⟩
        · intro hb2
          try simp only [decide_eq_true_eq, decide_eq_false_iff_not, beq_eq_false_iff_ne, bne_eq_false_iff_eq, Bool.not_eq_false', Bool.and_eq_false_imp] at hb2
          refine r_skip ?_
          refine k_block ?_
          refine k_seq ?_
          refine q_region hG ?_ ?_ -- R6
          · trivial
          show ∃ z, _
          simp only [ml0, ml1, Nat.reduceLT, Nat.reduceEqDiff, Nat.reduceAdd, Nat.reduceMul, Nat.reduceSub, Nat.reduceLeDiff, Nat.reduceBEq, Nat.reduceBNe, reduceIte, reduceDIte, reduceCtorEq]
          exact ⟨k + 1, by first | exact rint_step hC.1 hb0 hb1 hb2 | exact rint_skip hC.1 hb1 hb2, wi (by omega) (by omega), by omega, by omega⟩
      · intro hb1
        simp only [decide_eq_false_iff_not] at hb1
        refine r_exit ?_
        refine k_seq_exit ?_
        refine k_round_exit ?_
        refine k_block_exit ?_
        refine k_seq ?_
        refine r_seq ?_
        refine r_seq ?_
        refine q_region hG ?_ ?_ -- R9
        · try simp only [and_true, true_and]
          exact hC.1
        refine k_seq ?_
        refine q_cond ?_ ?_
        · intro hb3
          try simp only [decide_eq_true_eq, decide_eq_false_iff_not, beq_iff_eq, bne_iff_ne, Bool.not_eq_true', Bool.and_eq_true] at hb3
          refine q_region hG ?_ ?_ -- R10
          · trivial
          refine k_seq ?_
          refine r_seq ?_
          refine q_region hG ?_ ?_ -- R11
          · trivial
          refine k_seq ?_
          refine r_ret ?_
          refine ⟨[], ?_⟩
          simp only [hT, tab322, mr0, mr1, mr2, Nat.reduceLT, Nat.reduceEqDiff, Nat.reduceAdd, Nat.reduceMul, Nat.reduceSub, Nat.reduceLeDiff, Nat.reduceBEq, Nat.reduceBNe, reduceIte, reduceDIte, reduceCtorEq]
          exact (rint_end hb0 hk hb1).1 hb3
        · intro hb3
          try simp only [decide_eq_true_eq, decide_eq_false_iff_not, beq_eq_false_iff_ne, bne_eq_false_iff_eq, Bool.not_eq_false', Bool.and_eq_false_imp] at hb3
          refine r_skip ?_
          refine k_seq ?_
          refine r_seq ?_
          refine q_region hG ?_ ?_ -- R11
          · trivial
          refine k_seq ?_
          refine r_ret ?_
          refine ⟨[], ?_⟩
          simp only [hT, tab322, mr0, mr1, mr2, Nat.reduceLT, Nat.reduceEqDiff, Nat.reduceAdd, Nat.reduceMul, Nat.reduceSub, Nat.reduceLeDiff, Nat.reduceBEq, Nat.reduceBNe, reduceIte, reduceDIte, reduceCtorEq]
          exact (rint_end hb0 hk hb1).2 hb3

end Go.Proofs.YtkgbdpmhdplddaaGreatDoor
end

section
/- The functions of the package exact, one after the other: each meets its contract. -/
set_option linter.unusedSimpArgs false
set_option linter.unusedVariables false
set_option maxRecDepth 100000
namespace Go.Proofs.YtkgbdpmhdplddaaGreatDoor
open Go Go.Cm Go.Proofs

def tab324 (B : Base) : Tab := { types := [(3, (.int .i64)), (9, .str)], elems := [], cons := [], hint := [], N := 8, base := B }
theorem good324 {B : Base} (hB : Tabs B) : MGood Tryz.prog (tab324 B) := ⟨⟨types_cons ty3 (types_cons ty9 (types_nil)), elems_nil, by simp only [tab324, ioB]; omega⟩, cons_nil rfl, by kernel_rfl⟩
def cLCut : Con := fun l os => match l, os with
  | [.z .str s], [] => some (True, [.z .str (s.take 60)], [])
  | _, _ => none

theorem valid324 {B : Base} (hB : Tabs B) : Valid B Tryz.prog 7 cLCut := by
  refine valid_of_J (T := tab324 B) (good324 hB).tab Tryz.func7 rfl rfl rfl ?_
  intro args os C rs os' hc hC
  unfold cLCut at hc
  split at hc
  case h_2 => cases hc
  rename_i s
  cases hc
  refine ⟨by simp only [List.length_cons, List.length_nil, tab324]; omega, rfl, ?_⟩
  intro X hP hT hr
  have hG : MGood X.P X.T := by rw [hP, hT]; exact good324 hB
  unfold tab324 at hT
  have hX := Bool.not_true
  simp only [Tryz.f7, argEnv, ioList, ioB]
  refine r_seq ?_
  refine q_region hG ?_ ?_ -- R0
  · trivial
  refine k_seq ?_
  refine r_seq ?_
  refine q_region hG ?_ ?_ -- R1
  · try simp only [and_true, true_and]
    exact ⟨by omega, by omega, by omega⟩
  refine k_seq ?_
  refine r_ret ?_
  refine ⟨[], ?_⟩
  simp only [hT, tab324, mr0, mr1, mr2, Nat.reduceLT, Nat.reduceEqDiff, Nat.reduceAdd, Nat.reduceMul, Nat.reduceSub, Nat.reduceLeDiff, Nat.reduceBEq, Nat.reduceBNe, reduceIte, reduceDIte, reduceCtorEq]
  exact cut_eq s

def tab326 (B : Base) : Tab := { types := [(3, (.int .i64)), (9, .str), (29, (.int .i64))], elems := [], cons := [(30, cRDigits)], hint := [], N := 23, base := B }
theorem good326 {B : Base} (hB : Tabs B) : MGood Tryz.prog (tab326 B) := ⟨⟨types_cons ty3 (types_cons ty9 (types_cons ty29 (types_nil))), elems_nil, by simp only [tab326, ioB]; omega⟩, cons_ok (cals_cons (cal_ok Tryz.func30 (by kernel_rfl) rfl (valid301 hB)) (cals_nil)), by kernel_rfl⟩
def cLTold : Con := fun l os => match l, os with
  | [.z .str s, .z (.int .i64) e, .z .str w], [] => some (RF w ∧ w.length < CAP, [.z .bool (toldB s e (numI w))], [])
  | _, _ => none

theorem valid326 {B : Base} (hB : Tabs B) : Valid B Tryz.prog 17 cLTold := by
  refine valid_of_J (T := tab326 B) (good326 hB).tab Tryz.func17 rfl rfl rfl ?_
  intro args os C rs os' hc hC
  unfold cLTold at hc
  split at hc
  case h_2 => cases hc
  rename_i s e w
  cases hc
  refine ⟨by simp only [List.length_cons, List.length_nil, tab326]; omega, rfl, ?_⟩
  intro X hP hT hr
  have hG : MGood X.P X.T := by rw [hP, hT]; exact good326 hB
  unfold tab326 at hT
  have hX := @cRDigits.eq_1
  simp only [Tryz.f17, argEnv, ioList, ioB]
  refine r_seq ?_
  refine q_region hG ?_ ?_ -- R0
  · trivial
  refine k_seq ?_
  refine r_seq ?_
  refine r_seq ?_
  refine q_region hG ?_ ?_ -- R1
  · try simp only [and_true, true_and]
    exact hC
  refine k_seq ?_
  refine q_cond ?_ ?_
  · intro hb0
    try simp only [decide_eq_true_eq, decide_eq_false_iff_not, beq_iff_eq, bne_iff_ne, Bool.not_eq_true', Bool.and_eq_true] at hb0
    refine r_seq ?_
    refine q_region hG ?_ ?_ -- R2
    · try simp only [and_true, true_and]
      (repeat' (first | apply And.intro | intro _)) <;> (try simp only [decide_eq_true_eq, decide_eq_false_iff_not, Bool.not_eq_true', beq_iff_eq, Int.toNat_natCast] at *) <;> first | assumption | omega | trivial | (simp_all; done) | (simp_all; omega)
    refine k_seq ?_
    refine r_ret ?_
    refine k_seq_ret ?_
    refine ⟨[], ?_⟩
    simp only [hT, tab326, mr0, mr1, mr2, Nat.reduceLT, Nat.reduceEqDiff, Nat.reduceAdd, Nat.reduceMul, Nat.reduceSub, Nat.reduceLeDiff, Nat.reduceBEq, Nat.reduceBNe, reduceIte, reduceDIte, reduceCtorEq]
    exact told_big hb0
  · intro hb0
    try simp only [decide_eq_true_eq, decide_eq_false_iff_not, beq_eq_false_iff_ne, bne_eq_false_iff_eq, Bool.not_eq_false', Bool.and_eq_false_imp] at hb0
    refine r_skip ?_
    refine k_seq ?_
    refine r_seq ?_
    refine q_region hG ?_ ?_ -- R3
    · try simp only [and_true, true_and]
      (repeat' (first | apply And.intro | intro _)) <;> (try simp only [decide_eq_true_eq, decide_eq_false_iff_not, Bool.not_eq_true', beq_iff_eq, Int.toNat_natCast] at *) <;> first | assumption | omega | trivial | (simp_all; done) | (simp_all; omega)
    refine k_seq ?_
    refine r_ret ?_
    refine ⟨[], ?_⟩
    simp only [hT, tab326, mr0, mr1, mr2, Nat.reduceLT, Nat.reduceEqDiff, Nat.reduceAdd, Nat.reduceMul, Nat.reduceSub, Nat.reduceLeDiff, Nat.reduceBEq, Nat.reduceBNe, reduceIte, reduceDIte, reduceCtorEq]
    exact told_ok hC.1 hb0

def tab325 (B : Base) : Tab := { types := [(3, (.int .i64)), (9, .str), (29, (.int .i64)), (37, (.arr 2 .str))], elems := [], cons := [(10, cRCheck), (17, cLTold), (22, cCmpT), (24, cAddT), (25, cSubT), (33, cRCmp), (35, cRAdd), (36, cRSub)], hint := [], N := 93, base := B }
theorem good325 {B : Base} (hB : Tabs B) : MGood Tryz.prog (tab325 B) := ⟨⟨types_cons ty3 (types_cons ty9 (types_cons ty29 (types_cons ty37 (types_nil)))), elems_nil, by simp only [tab325, ioB]; omega⟩, cons_ok (cals_cons (cal_ok Tryz.func10 (by kernel_rfl) rfl (valid302 hB)) (cals_cons (cal_ok Tryz.func17 (by kernel_rfl) rfl (valid326 hB)) (cals_cons (cal_ok Tryz.func22 (by kernel_rfl) rfl (valid15 hB)) (cals_cons (cal_ok Tryz.func24 (by kernel_rfl) rfl (valid10 hB)) (cals_cons (cal_ok Tryz.func25 (by kernel_rfl) rfl (valid13 hB)) (cals_cons (cal_ok Tryz.func33 (by kernel_rfl) rfl (valid315 hB)) (cals_cons (cal_ok Tryz.func35 (by kernel_rfl) rfl (valid316 hB)) (cals_cons (cal_ok Tryz.func36 (by kernel_rfl) rfl (valid317 hB)) (cals_nil))))))))), by kernel_rfl⟩
def cLSums : Con := fun l os => match l, os with
  | [.z .str a, .z .str b], [] => some (S3k a ∧ S3k b, [.z .bool true], [])
  | _, _ => none

theorem valid325 {B : Base} (hB : Tabs B) : Valid B Tryz.prog 13 cLSums := by
  refine valid_of_J (T := tab325 B) (good325 hB).tab Tryz.func13 rfl rfl rfl ?_
  intro args os C rs os' hc hC
  unfold cLSums at hc
  split at hc
  case h_2 => cases hc
  rename_i a b
  cases hc
  refine ⟨by simp only [List.length_cons, List.length_nil, tab325]; omega, rfl, ?_⟩
  intro X hP hT hr
  have hG : MGood X.P X.T := by rw [hP, hT]; exact good325 hB
  unfold tab325 at hT
  have hX := And.intro (@cAddT.eq_1) <| And.intro (@cSubT.eq_1) <| And.intro (@cCmpT.eq_1) <| And.intro (@cRCheck.eq_1) <| And.intro (@cLTold.eq_1) <| And.intro (@cRAdd.eq_1) <| And.intro (@cRSub.eq_1) <| @cRCmp.eq_1
  simp only [Tryz.f13, argEnv, ioList, ioB]
  refine r_seq ?_
  refine q_region hG ?_ ?_ -- R0
  · trivial
  refine k_seq ?_
  refine r_seq ?_
  refine q_region hG ?_ ?_ -- R1
  · try simp only [and_true, true_and]
    exact ⟨hC.1.short, hC.2.short⟩
  refine k_seq ?_
  refine r_seq ?_
  refine q_region hG ?_ ?_ -- R2
  · try simp only [and_true, true_and]
    exact ⟨hC.1.short, hC.2.short⟩
  refine k_seq ?_
  refine r_seq ?_
  refine q_region hG ?_ ?_ -- R3
  · try simp only [and_true, true_and]
    exact ⟨hC.1.short, hC.2.short⟩
  refine k_seq ?_
  refine r_seq ?_
  refine r_seq ?_
  refine q_region hG ?_ ?_ -- R4
  · trivial
  refine k_seq ?_
  refine j_block ?_
  refine j_loop (fun (z : Nat) => (⟨[(0, .l (.z .str a)), (1, .l (.z .str b)), (5, .l (.z .str (resS (chkAll [a, b]) (numI a + numI b)))), (6, .l (.z (.int .i64) (resE (chkAll [a, b]) (numI a + numI b)))), (7, .l (.z .str (resS (chkAll [a, b]) (numI a - numI b)))), (8, .l (.z (.int .i64) (resE (chkAll [a, b]) (numI a - numI b)))), (9, .l (.z (.int .i64) (cmpV a b))), (10, .l (.z (.int .i64) (chkAll [a, b]))), (34, .l (.z (.arr 2 .str) [a, b])), (35, .l (.z (.int .i64) (z : Int)))], []⟩ : AState)) (fun z => z ≤ 2 ∧ ∀ j < z, chk ([a, b].getD j []) = 0) (fun z => 2 - z) 0 ?_ ?_ ?_
  · simp only [ml0, ml1, Nat.reduceLT, Nat.reduceEqDiff, Nat.reduceAdd, Nat.reduceMul, Nat.reduceSub, Nat.reduceLeDiff, Nat.reduceBEq, Nat.reduceBNe, reduceIte, reduceDIte, reduceCtorEq]
    rfl
  · exact ⟨by omega, fun j hj => absurd hj (by omega)⟩
  · rintro k ⟨hk, hp⟩
    try dsimp only at hk hp
    refine r_seq ?_
    refine q_region hG ?_ ?_ -- R5
    · trivial
    refine k_seq ?_
    refine r_seq ?_
    refine q_cond ?_ ?_
    · intro hb0
      try simp only [decide_eq_true_eq, decide_eq_false_iff_not, beq_iff_eq, bne_iff_ne, Bool.not_eq_true', Bool.and_eq_true] at hb0
      refine r_skip ?_
      refine k_seq ?_
      refine r_seq ?_
      refine j_block ?_
      refine r_seq ?_
      refine q_region hG ?_ ?_ -- R6
      · try simp only [and_true, true_and]
        exact ⟨by omega, by show (k : Int) < 2; omega⟩
      refine k_seq ?_
      refine r_seq ?_
      refine q_region hG ?_ ?_ -- R7
      · try simp only [and_true, true_and]
        rw [nth_s]; exact (two_at hC (by omega)).cap
      refine k_seq ?_
      refine r_seq ?_
      refine q_region hG ?_ ?_ -- R8
      · trivial
      refine k_seq ?_
      refine q_cond ?_ ?_
      · intro hb1
        simp only [bne_iff_ne, ne_eq, nth_s] at hb1
        have hcb := sums_bad (by omega) hb1 hp
        have hne := hb1
        rw [← hcb] at hne
        refine r_seq ?_
        refine q_region hG ?_ ?_ -- R9
        · try simp only [and_true, true_and]
          exact ⟨fun h => h, fun h => h, fun h => h, fun h => h, fun h => h, fun h => h, fun h => h, fun h => h, fun h => h⟩
        refine k_seq ?_
        refine r_ret ?_
        refine k_block_ret ?_
        refine k_seq_ret ?_
        refine k_round_ret ?_
        refine k_block_ret ?_
        refine k_seq_ret ?_
        refine ⟨[], ?_⟩
        simp only [hT, tab325, mr0, mr1, mr2, Nat.reduceLT, Nat.reduceEqDiff, Nat.reduceAdd, Nat.reduceMul, Nat.reduceSub, Nat.reduceLeDiff, Nat.reduceBEq, Nat.reduceBNe, reduceIte, reduceDIte, reduceCtorEq]
        rw [nth_s, ← hcb]
        simp [bad_vals hne, cmp_bad' hne]
      · intro hb1
        simp only [bne_eq_false_iff_eq, nth_s] at hb1
        refine r_skip ?_
        refine k_block ?_
        refine k_seq ?_
        refine q_region hG ?_ ?_ -- R10
        · trivial
        show ∃ z, _
        simp only [ml0, ml1, Nat.reduceLT, Nat.reduceEqDiff, Nat.reduceAdd, Nat.reduceMul, Nat.reduceSub, Nat.reduceLeDiff, Nat.reduceBEq, Nat.reduceBNe, reduceIte, reduceDIte, reduceCtorEq]
        exact ⟨k + 1, wi (by omega) (by omega), by omega, two_next hp hb1, by omega⟩
    · intro hb0
      simp only [decide_eq_false_iff_not] at hb0
      obtain ⟨ga, gb, gc⟩ := sums_good hk hb0 hp
      obtain ⟨o1, o2, o3, o4, o5, o6, o7⟩ := op_itoa ga gb
      refine r_exit ?_
      refine k_seq_exit ?_
      refine k_round_exit ?_
      refine k_block_exit ?_
      refine k_seq ?_
      refine r_seq ?_
      refine q_region hG ?_ ?_ -- R11
      · try simp only [and_true, true_and]
        exact ⟨o1, o4, fun h => ⟨h, o2⟩, fun h => ⟨h, o5⟩, fun h => h, fun h => h, fun h => h, fun h => ⟨h, o7⟩, fun h => h⟩
      refine k_seq ?_
      refine r_ret ?_
      refine ⟨[], ?_⟩
      simp only [hT, tab325, mr0, mr1, mr2, Nat.reduceLT, Nat.reduceEqDiff, Nat.reduceAdd, Nat.reduceMul, Nat.reduceSub, Nat.reduceLeDiff, Nat.reduceBEq, Nat.reduceBNe, reduceIte, reduceDIte, reduceCtorEq]
      simp [form_itoa, told_app (e := 0) rfl, cmp_good' gc, gc]

end Go.Proofs.YtkgbdpmhdplddaaGreatDoor
end

section
/- The functions of the package exact, one after the other: each meets its contract. -/
set_option linter.unusedSimpArgs false
set_option linter.unusedVariables false
set_option maxRecDepth 100000
namespace Go.Proofs.YtkgbdpmhdplddaaGreatDoor
open Go Go.Cm Go.Proofs

def tab9 (B : Base) : Tab := { types := [(3, (.int .i64)), (4, .bool), (5, (.int .u8)), (9, .str), (22, (.slice (.int .u8))), (24, (.st (.pair .bool (.pair (.slice (.int .u8)) (.int .u8)))))], elems := [(22, 5)], cons := [], hint := [], N := 54, base := B }
theorem good9 {B : Base} (hB : Tabs B) : MGood Tryz.prog (tab9 B) := ⟨⟨types_cons ty3 (types_cons ty4 (types_cons ty5 (types_cons ty9 (types_cons ty22 (types_cons ty24 (types_nil)))))), elems_cons (by kernel_rfl) (elems_nil), by simp only [tab9, ioB]; omega⟩, cons_nil rfl, by kernel_rfl⟩
def cDraft : Con := fun l os => match l, os with
  | [.z (.st (.pair .bool (.pair (.slice (.int .u8)) (.int .u8)))) d], [] => some (DOK d, [.z .str (dtext d)], [])
  | _, _ => none

theorem valid9 {B : Base} (hB : Tabs B) : Valid B Tryz.prog 8 cDraft := by
  refine valid_of_J (T := tab9 B) (good9 hB).tab Tryz.func8 rfl rfl rfl ?_
  intro args os C rs os' hc hC
  unfold cDraft at hc
  split at hc
  case h_2 => cases hc
  rename_i d
  cases hc
  refine ⟨by simp only [List.length_cons, List.length_nil, tab9]; omega, rfl, ?_⟩
  intro X hP hT hr
  have hG : MGood X.P X.T := by rw [hP, hT]; exact good9 hB
  unfold tab9 at hT
  have hX := Bool.not_true
  simp only [Tryz.f8, argEnv, ioList, ioB]
  refine r_seq ?_
  refine q_region hG ?_ ?_ -- R0
  · trivial
  refine k_seq ?_
  refine r_seq ?_
  refine q_region hG ?_ ?_ -- R1
  · trivial
  refine k_seq ?_
  refine r_seq ?_
  refine r_seq ?_
  refine q_region hG ?_ ?_ -- R2
  · trivial
  refine k_seq ?_
  refine j_block ?_
  refine j_loop (fun (z : Nat) => (⟨[(1, .l (.z (.ptr (.st (.pair .bool (.pair (.slice (.int .u8)) (.int .u8))))) d)), (3, .l (.z .str (dpasses d.2.1 z))), (4, .l (.z (.int .i64) (z : Int)))], []⟩ : AState)) (fun z => z ≤ (d.2.2 % 8).toNat + 1) (fun z => (d.2.2 % 8).toNat + 1 - z) 0 ?_ ?_ ?_
  · simp only [ml0, ml1, Nat.reduceLT, Nat.reduceEqDiff, Nat.reduceAdd, Nat.reduceMul, Nat.reduceSub, Nat.reduceLeDiff, Nat.reduceBEq, Nat.reduceBNe, reduceIte, reduceDIte, reduceCtorEq]
    exact ⟨rfl, rfl⟩
  · omega
  · rintro k hk
    try dsimp only at hk
    refine r_seq ?_
    refine r_seq ?_
    refine q_region hG ?_ ?_ -- R3
    · try simp only [and_true, true_and]
      decide
    refine k_seq ?_
    refine q_cond ?_ ?_
    · intro hb0
      try simp only [decide_eq_true_eq, decide_eq_false_iff_not, beq_iff_eq, bne_iff_ne, Bool.not_eq_true', Bool.and_eq_true] at hb0
      refine r_skip ?_
      refine k_seq ?_
      refine r_seq ?_
      refine j_block ?_
      refine r_seq ?_
      refine q_region hG ?_ ?_ -- R5
      · trivial
      refine k_seq ?_
      refine j_block ?_
      refine j_loop (fun (z : Nat × List UInt8) => (⟨[(1, .l (.z (.ptr (.st (.pair .bool (.pair (.slice (.int .u8)) (.int .u8))))) d)), (3, .l (.z .str z.2)), (4, .l (.z (.int .i64) (k : Int))), (5, .l (.z (.int .i64) (z.1 : Int)))], []⟩ : AState)) (fun z => InPhi d.2.1 (dpasses d.2.1 k) z.1 z.2) (fun z => 30 - z.1) (0, dpasses d.2.1 k) ?_ ?_ ?_
      · simp only [ml0, ml1, Nat.reduceLT, Nat.reduceEqDiff, Nat.reduceAdd, Nat.reduceMul, Nat.reduceSub, Nat.reduceLeDiff, Nat.reduceBEq, Nat.reduceBNe, reduceIte, reduceDIte, reduceCtorEq]
        rfl
      · exact ⟨Nat.zero_le _, Nat.zero_le _, rfl⟩
      · rintro ⟨i, s⟩ hi
        try dsimp only at hi
        refine r_seq ?_
        refine r_seq ?_
        refine q_region hG ?_ ?_ -- R6
        · try simp only [and_true, true_and]
          exact fun h => h
        refine k_seq ?_
        refine q_cond ?_ ?_
        · intro hb1
          try simp only [decide_eq_true_eq, decide_eq_false_iff_not, beq_iff_eq, bne_iff_ne, Bool.not_eq_true', Bool.and_eq_true] at hb1
          refine r_skip ?_
          refine k_seq ?_
          refine r_seq ?_
          refine j_block ?_
          refine r_seq ?_
          refine q_region hG ?_ ?_ -- R8
          · try simp only [and_true, true_and]
            exact ⟨fun h => h, fun h => ⟨h, by omega, hb1.1⟩, fun h => h, fun h => ⟨h, by decide⟩, fun h => h, fun h => by have h2 : (s != []) = !(s == []) := rfl; simp_all⟩
          refine k_seq ?_
          refine q_cond ?_ ?_
          · intro hb2
            try simp only [decide_eq_true_eq, decide_eq_false_iff_not, beq_iff_eq, bne_iff_ne, Bool.not_eq_true', Bool.and_eq_true] at hb2
            refine q_region hG ?_ ?_ -- R9
            · try simp only [and_true, true_and]
              have hl := in_len hC hk hi
              exact ⟨⟨by omega, hb1.1⟩, by decide, by have h1 : (strOf [IntKind.u8.wrap (48 + Int.tmod (nth (Ty.int IntKind.u8) d.2.1 (i : Int)) 10)]).length = 1 := rfl; rw [h1]; have h2 : 1000 ≤ maxLen := (by decide); omega⟩
            refine k_block ?_
            refine k_seq ?_
            refine q_region hG ?_ ?_ -- R7
            · trivial
            show ∃ z, _
            simp only [ml0, ml1, Nat.reduceLT, Nat.reduceEqDiff, Nat.reduceAdd, Nat.reduceMul, Nat.reduceSub, Nat.reduceLeDiff, Nat.reduceBEq, Nat.reduceBNe, reduceIte, reduceDIte, reduceCtorEq]
            first | exact in_true hC hi hb1 hb2 | exact in_false hC hi hb1 hb2
          · intro hb2
            try simp only [decide_eq_true_eq, decide_eq_false_iff_not, beq_eq_false_iff_ne, bne_eq_false_iff_eq, Bool.not_eq_false', Bool.and_eq_false_imp] at hb2
            refine r_skip ?_
            refine k_block ?_
            refine k_seq ?_
            refine q_region hG ?_ ?_ -- R7
            · trivial
            show ∃ z, _
            simp only [ml0, ml1, Nat.reduceLT, Nat.reduceEqDiff, Nat.reduceAdd, Nat.reduceMul, Nat.reduceSub, Nat.reduceLeDiff, Nat.reduceBEq, Nat.reduceBNe, reduceIte, reduceDIte, reduceCtorEq]
            first | exact in_true hC hi hb1 hb2 | exact in_false hC hi hb1 hb2
        · intro hb1
          try simp only [decide_eq_true_eq, decide_eq_false_iff_not, beq_eq_false_iff_ne, bne_eq_false_iff_eq, Bool.not_eq_false', Bool.and_eq_false_imp] at hb1
          refine r_exit ?_
          refine k_seq_exit ?_
          refine k_round_exit ?_
          refine k_block_exit ?_
          refine k_block ?_
          refine k_seq ?_
          refine q_region hG ?_ ?_ -- R4
          · trivial
          show ∃ z, _
          simp only [ml0, ml1, Nat.reduceLT, Nat.reduceEqDiff, Nat.reduceAdd, Nat.reduceMul, Nat.reduceSub, Nat.reduceLeDiff, Nat.reduceBEq, Nat.reduceBNe, reduceIte, reduceDIte, reduceCtorEq]
          exact out_next hC hk hb0 hi hb1
    · intro hb0
      try simp only [decide_eq_true_eq, decide_eq_false_iff_not, beq_eq_false_iff_ne, bne_eq_false_iff_eq, Bool.not_eq_false', Bool.and_eq_false_imp] at hb0
      refine r_exit ?_
      refine k_seq_exit ?_
      refine k_round_exit ?_
      refine k_block_exit ?_
      refine k_seq ?_
      refine r_seq ?_
      refine r_seq ?_
      refine q_region hG ?_ ?_ -- R10
      · trivial
      refine k_seq ?_
      refine q_cond ?_ ?_
      · intro hb3
        try simp only [decide_eq_true_eq, decide_eq_false_iff_not, beq_iff_eq, bne_iff_ne, Bool.not_eq_true', Bool.and_eq_true] at hb3
        refine r_seq ?_
        refine q_region hG ?_ ?_ -- R11
        · trivial
        refine k_seq ?_
        refine r_ret ?_
        refine k_seq_ret ?_
        refine ⟨[], ?_⟩
        simp only [hT, tab9, mr0, mr1, mr2, Nat.reduceLT, Nat.reduceEqDiff, Nat.reduceAdd, Nat.reduceMul, Nat.reduceSub, Nat.reduceLeDiff, Nat.reduceBEq, Nat.reduceBNe, reduceIte, reduceDIte, reduceCtorEq]
        rw [out_end hC hk hb0] at hb3
        unfold dtext
        rw [if_pos hb3]
      · intro hb3
        try simp only [decide_eq_true_eq, decide_eq_false_iff_not, beq_eq_false_iff_ne, bne_eq_false_iff_eq, Bool.not_eq_false', Bool.and_eq_false_imp] at hb3
        refine r_skip ?_
        refine k_seq ?_
        refine r_seq ?_
        refine r_seq ?_
        refine q_region hG ?_ ?_ -- R12
        · trivial
        refine k_seq ?_
        refine q_cond ?_ ?_
        · intro hb4
          try simp only [decide_eq_true_eq, decide_eq_false_iff_not, beq_iff_eq, bne_iff_ne, Bool.not_eq_true', Bool.and_eq_true] at hb4
          refine r_seq ?_
          refine q_region hG ?_ ?_ -- R13
          · try simp only [and_true, true_and]
            rw [out_end hC hk hb0]
            have := dmag_len hC
            have h2 : 1000 ≤ maxLen := by decide
            omega
          refine k_seq ?_
          refine r_ret ?_
          refine k_seq_ret ?_
          refine ⟨[], ?_⟩
          simp only [hT, tab9, mr0, mr1, mr2, Nat.reduceLT, Nat.reduceEqDiff, Nat.reduceAdd, Nat.reduceMul, Nat.reduceSub, Nat.reduceLeDiff, Nat.reduceBEq, Nat.reduceBNe, reduceIte, reduceDIte, reduceCtorEq]
          rw [out_end hC hk hb0] at hb3 ⊢
          unfold dtext
          rw [if_neg hb3, if_pos hb4]
        · intro hb4
          try simp only [decide_eq_true_eq, decide_eq_false_iff_not, beq_eq_false_iff_ne, bne_eq_false_iff_eq, Bool.not_eq_false', Bool.and_eq_false_imp] at hb4
          refine r_skip ?_
          refine k_seq ?_
          refine r_seq ?_
          refine q_region hG ?_ ?_ -- R14
          · trivial
          refine k_seq ?_
          refine r_ret ?_
          refine ⟨[], ?_⟩
          simp only [hT, tab9, mr0, mr1, mr2, Nat.reduceLT, Nat.reduceEqDiff, Nat.reduceAdd, Nat.reduceMul, Nat.reduceSub, Nat.reduceLeDiff, Nat.reduceBEq, Nat.reduceBNe, reduceIte, reduceDIte, reduceCtorEq]
          rw [out_end hC hk hb0] at hb3 ⊢
          unfold dtext
          rw [if_neg hb3, if_neg (by rw [hb4]; decide)]

end Go.Proofs.YtkgbdpmhdplddaaGreatDoor
end

section
/- The functions of the package exact, one after the other: each meets its contract. -/
set_option linter.unusedSimpArgs false
set_option linter.unusedVariables false
set_option maxRecDepth 100000
namespace Go.Proofs.YtkgbdpmhdplddaaGreatDoor
open Go Go.Cm Go.Proofs

def tab12 (B : Base) : Tab := { types := [(9, .str)], elems := [], cons := [], hint := [], N := 4, base := B }
theorem good12 {B : Base} (hB : Tabs B) : MGood Tryz.prog (tab12 B) := ⟨⟨types_cons ty9 (types_nil), elems_nil, by simp only [tab12, ioB]; omega⟩, cons_nil rfl, by kernel_rfl⟩
def cIs : Con := fun l os => match l, os with
  | [.z .str s], [] => some (True, [.fn 54 [.z (.ptr .str) s]], [])
  | _, _ => none

theorem valid12 {B : Base} (hB : Tabs B) : Valid B Tryz.prog 23 cIs := by
  refine valid_of_J (T := tab12 B) (good12 hB).tab Tryz.func23 rfl rfl rfl ?_
  intro args os C rs os' hc hC
  unfold cIs at hc
  split at hc
  case h_2 => cases hc
  rename_i s
  cases hc
  refine ⟨by simp only [List.length_cons, List.length_nil, tab12]; omega, rfl, ?_⟩
  intro X hP hT hr
  have hG : MGood X.P X.T := by rw [hP, hT]; exact good12 hB
  unfold tab12 at hT
  have hX := Bool.not_true
  simp only [Tryz.f23, argEnv, ioList, ioB]
  refine r_seq ?_
  refine q_region hG ?_ ?_ -- R0
  · trivial
  refine k_seq ?_
  refine r_seq ?_
  refine q_region hG ?_ ?_ -- R1
  · trivial
  refine k_seq ?_
  refine r_ret ?_
  refine ⟨[], ?_⟩
  simp only [hT, tab12, mr0, mr1, mr2, Nat.reduceLT, Nat.reduceEqDiff, Nat.reduceAdd, Nat.reduceMul, Nat.reduceSub, Nat.reduceLeDiff, Nat.reduceBEq, Nat.reduceBNe, reduceIte, reduceDIte, reduceCtorEq]
  rfl

def tab22 (B : Base) : Tab := { types := [(29, (.int .i64))], elems := [], cons := [], hint := [], N := 4, base := B }
theorem good22 {B : Base} (hB : Tabs B) : MGood Tryz.prog (tab22 B) := ⟨⟨types_cons ty29 (types_nil), elems_nil, by simp only [tab22, ioB]; omega⟩, cons_nil rfl, by kernel_rfl⟩
def cFails : Con := fun l os => match l, os with
  | [.z (.int .i64) n], [] => some (True, [.fn 57 [.z (.ptr (.int .i64)) n]], [])
  | _, _ => none

theorem valid22 {B : Base} (hB : Tabs B) : Valid B Tryz.prog 26 cFails := by
  refine valid_of_J (T := tab22 B) (good22 hB).tab Tryz.func26 rfl rfl rfl ?_
  intro args os C rs os' hc hC
  unfold cFails at hc
  split at hc
  case h_2 => cases hc
  rename_i n
  cases hc
  refine ⟨by simp only [List.length_cons, List.length_nil, tab22]; omega, rfl, ?_⟩
  intro X hP hT hr
  have hG : MGood X.P X.T := by rw [hP, hT]; exact good22 hB
  unfold tab22 at hT
  have hX := Bool.not_true
  simp only [Tryz.f26, argEnv, ioList, ioB]
  refine r_seq ?_
  refine q_region hG ?_ ?_ -- R0
  · trivial
  refine k_seq ?_
  refine r_seq ?_
  refine q_region hG ?_ ?_ -- R1
  · trivial
  refine k_seq ?_
  refine r_ret ?_
  refine ⟨[], ?_⟩
  simp only [hT, tab22, mr0, mr1, mr2, Nat.reduceLT, Nat.reduceEqDiff, Nat.reduceAdd, Nat.reduceMul, Nat.reduceSub, Nat.reduceLeDiff, Nat.reduceBEq, Nat.reduceBNe, reduceIte, reduceDIte, reduceCtorEq]
  rfl

def tab28 (B : Base) : Tab := { types := [(9, .str), (29, (.int .i64))], elems := [], cons := [], hint := [], N := 13, base := B }
theorem good28 {B : Base} (hB : Tabs B) : MGood Tryz.prog (tab28 B) := ⟨⟨types_cons ty9 (types_cons ty29 (types_nil)), elems_nil, by simp only [tab28, ioB]; omega⟩, cons_nil rfl, by kernel_rfl⟩
def cIsF : Con := fun l os => match l, os with
  | [.z .str a, .z (.int .i64) e, .z (.ptr .str) s], [] => some (True, [.z .bool ((a == s) && (e == 0))], [])
  | _, _ => none

theorem valid28 {B : Base} (hB : Tabs B) : Valid B Tryz.prog 54 cIsF := by
  refine valid_of_J (T := tab28 B) (good28 hB).tab Tryz.func54 rfl rfl rfl ?_
  intro args os C rs os' hc hC
  unfold cIsF at hc
  split at hc
  case h_2 => cases hc
  rename_i a e s
  cases hc
  refine ⟨by simp only [List.length_cons, List.length_nil, tab28]; omega, rfl, ?_⟩
  intro X hP hT hr
  have hG : MGood X.P X.T := by rw [hP, hT]; exact good28 hB
  unfold tab28 at hT
  have hX := Bool.not_true
  simp only [Tryz.f54, argEnv, ioList, ioB]
  refine r_seq ?_
  refine q_region hG ?_ ?_ -- R0
  · trivial
  refine k_seq ?_
  refine r_seq ?_
  refine q_region hG ?_ ?_ -- R1
  · try simp only [and_true, true_and]
    (repeat' (first | apply And.intro | intro _)) <;> (try simp only [decide_eq_true_eq, decide_eq_false_iff_not, Bool.not_eq_true', beq_iff_eq, Int.toNat_natCast] at *) <;> first | assumption | omega | trivial | (simp_all; done) | (simp_all; omega)
  refine k_seq ?_
  refine r_ret ?_
  refine ⟨[], ?_⟩
  simp only [hT, tab28, mr0, mr1, mr2, Nat.reduceLT, Nat.reduceEqDiff, Nat.reduceAdd, Nat.reduceMul, Nat.reduceSub, Nat.reduceLeDiff, Nat.reduceBEq, Nat.reduceBNe, reduceIte, reduceDIte, reduceCtorEq]
  skip

def tab45 (B : Base) : Tab := { types := [(9, .str), (29, (.int .i64))], elems := [], cons := [], hint := [], N := 13, base := B }
theorem good45 {B : Base} (hB : Tabs B) : MGood Tryz.prog (tab45 B) := ⟨⟨types_cons ty9 (types_cons ty29 (types_nil)), elems_nil, by simp only [tab45, ioB]; omega⟩, cons_nil rfl, by kernel_rfl⟩
def cFailsF : Con := fun l os => match l, os with
  | [.z .str a, .z (.int .i64) e, .z (.ptr (.int .i64)) n], [] => some (True, [.z .bool ((a == []) && (e == n))], [])
  | _, _ => none

theorem valid45 {B : Base} (hB : Tabs B) : Valid B Tryz.prog 57 cFailsF := by
  refine valid_of_J (T := tab45 B) (good45 hB).tab Tryz.func57 rfl rfl rfl ?_
  intro args os C rs os' hc hC
  unfold cFailsF at hc
  split at hc
  case h_2 => cases hc
  rename_i a e n
  cases hc
  refine ⟨by simp only [List.length_cons, List.length_nil, tab45]; omega, rfl, ?_⟩
  intro X hP hT hr
  have hG : MGood X.P X.T := by rw [hP, hT]; exact good45 hB
  unfold tab45 at hT
  have hX := Bool.not_true
  simp only [Tryz.f57, argEnv, ioList, ioB]
  refine r_seq ?_
  refine q_region hG ?_ ?_ -- R0
  · trivial
  refine k_seq ?_
  refine r_seq ?_
  refine q_region hG ?_ ?_ -- R1
  · try simp only [and_true, true_and]
    (repeat' (first | apply And.intro | intro _)) <;> (try simp only [decide_eq_true_eq, decide_eq_false_iff_not, Bool.not_eq_true', beq_iff_eq, Int.toNat_natCast] at *) <;> first | assumption | omega | trivial | (simp_all; done) | (simp_all; omega)
  refine k_seq ?_
  refine r_ret ?_
  refine ⟨[], ?_⟩
  simp only [hT, tab45, mr0, mr1, mr2, Nat.reduceLT, Nat.reduceEqDiff, Nat.reduceAdd, Nat.reduceMul, Nat.reduceSub, Nat.reduceLeDiff, Nat.reduceBEq, Nat.reduceBNe, reduceIte, reduceDIte, reduceCtorEq]
  skip

end Go.Proofs.YtkgbdpmhdplddaaGreatDoor
end

section
/- The functions of the package exact, one after the other: each meets its contract. -/
set_option linter.unusedSimpArgs false
set_option linter.unusedVariables false
set_option maxRecDepth 100000
namespace Go.Proofs.YtkgbdpmhdplddaaGreatDoor
open Go Go.Cm Go.Proofs

def tab32 (B : Base) : Tab := { types := [(3, (.int .i64)), (4, .bool), (61, (.slice (.int .u32))), (63, (.st (.pair .bool (.slice (.int .u32)))))], elems := [], cons := [(39, cSign), (49, cSmall), (55, cAdd), (56, cSub), (66, cWhole), (67, cDivided)], hint := [], N := 47, base := B }
theorem good32 {B : Base} (hB : Tabs B) : MGood Tryz.prog (tab32 B) := ⟨⟨types_cons ty3 (types_cons ty4 (types_cons ty61 (types_cons ty63 (types_nil)))), elems_nil, by simp only [tab32, ioB]; omega⟩, cons_ok (cals_cons (cal_ok Tryz.func39 (by kernel_rfl) rfl (valid31 hB)) (cals_cons (cal_ok Tryz.func49 (by kernel_rfl) rfl (valid37 hB)) (cals_cons (cal_ok Tryz.func55 (by kernel_rfl) rfl (valid26 hB)) (cals_cons (cal_ok Tryz.func56 (by kernel_rfl) rfl (valid29 hB)) (cals_cons (cal_ok Tryz.func66 (by kernel_rfl) rfl (valid49 hB)) (cals_cons (cal_ok Tryz.func67 (by kernel_rfl) rfl (valid55 hB)) (cals_nil))))))), by kernel_rfl⟩
def cDivW : Con := fun l os => match l, os with
  | [.z (.st (.pair .bool (.slice (.int .u32)))) x, .z (.st (.pair .bool (.slice (.int .u32)))) y], [] => some (DivPre x y, [.z (.st (.pair .bool (.slice (.int .u32)))) (enc (floorQ (dec x) (dec y))), .z (.st (.pair .bool (.slice (.int .u32)))) (enc (floorR (dec x) (dec y)))], [])
  | _, _ => none

theorem valid32 {B : Base} (hB : Tabs B) : Valid B Tryz.prog 40 cDivW := by
  refine valid_of_J (T := tab32 B) (good32 hB).tab Tryz.func40 rfl rfl rfl ?_
  intro args os C rs os' hc hC
  unfold cDivW at hc
  split at hc
  case h_2 => cases hc
  rename_i x y
  cases hc
  refine ⟨by simp only [List.length_cons, List.length_nil, tab32]; omega, rfl, ?_⟩
  intro X hP hT hr
  have hG : MGood X.P X.T := by rw [hP, hT]; exact good32 hB
  unfold tab32 at hT
  have hX := And.intro (@cDivided.eq_1) <| And.intro (@cWhole.eq_1) <| And.intro (@cSign.eq_1) <| And.intro (@cSmall.eq_1) <| And.intro (@cSub.eq_1) <| @cAdd.eq_1
  simp only [Tryz.f40, argEnv, ioList, ioB]
  refine r_seq ?_
  refine q_region hG ?_ ?_ -- R0
  · trivial
  refine k_seq ?_
  refine r_seq ?_
  refine q_region hG ?_ ?_ -- R1
  · try simp only [and_true, true_and]
    exact hC.side1
  refine k_seq ?_
  refine r_seq ?_
  refine q_draw hG ?_ ?_ -- R2
  · try simp only [and_true, true_and]
    exact hC.side2
  refine k_seq ?_
  refine r_seq ?_
  refine r_seq ?_
  refine q_region hG ?_ ?_ -- R3
  · try simp only [and_true, true_and]
    exact ⟨enc_ok _, fun h => h⟩
  refine k_seq ?_
  refine q_cond ?_ ?_
  · intro hb0
    try simp only [decide_eq_true_eq, decide_eq_false_iff_not, beq_iff_eq, bne_iff_ne, Bool.not_eq_true', Bool.and_eq_true] at hb0
    refine q_draw hG ?_ ?_ -- R4
    · try simp only [and_true, true_and]
      exact hC.side4
    refine k_seq ?_
    refine r_seq ?_
    refine q_draw hG ?_ ?_ -- R5
    · trivial
    refine k_seq ?_
    refine r_ret ?_
    refine ⟨[], ?_⟩
    simp only [hT, tab32, mr0, mr1, mr2, Nat.reduceLT, Nat.reduceEqDiff, Nat.reduceAdd, Nat.reduceMul, Nat.reduceSub, Nat.reduceLeDiff, Nat.reduceBEq, Nat.reduceBNe, reduceIte, reduceDIte, reduceCtorEq]
    exact hC.fin1 hb0
  · intro hb0
    try simp only [decide_eq_true_eq, decide_eq_false_iff_not, beq_eq_false_iff_ne, bne_eq_false_iff_eq, Bool.not_eq_false', Bool.and_eq_false_imp] at hb0
    refine r_skip ?_
    refine k_seq ?_
    refine r_seq ?_
    refine q_draw hG ?_ ?_ -- R5
    · trivial
    refine k_seq ?_
    refine r_ret ?_
    refine ⟨[], ?_⟩
    simp only [hT, tab32, mr0, mr1, mr2, Nat.reduceLT, Nat.reduceEqDiff, Nat.reduceAdd, Nat.reduceMul, Nat.reduceSub, Nat.reduceLeDiff, Nat.reduceBEq, Nat.reduceBNe, reduceIte, reduceDIte, reduceCtorEq]
    exact hC.fin2 hb0

end Go.Proofs.YtkgbdpmhdplddaaGreatDoor
end

section
/- The functions of the package exact, one after the other: each meets its contract. -/
set_option linter.unusedSimpArgs false
set_option linter.unusedVariables false
set_option maxRecDepth 100000
namespace Go.Proofs.YtkgbdpmhdplddaaGreatDoor
open Go Go.Cm Go.Proofs

def tab14 (B : Base) : Tab := { types := [(3, (.int .i64)), (29, (.int .i64)), (57, (.slice (.st (.pair .bool (.slice (.int .u32)))))), (63, (.st (.pair .bool (.slice (.int .u32))))), (84, (.slice .str))], elems := [(84, 9)], cons := [(31, cReads), (39, cSign), (40, cDivW), (41, cText)], hint := [], N := 39, base := B }
theorem good14 {B : Base} (hB : Tabs B) : MGood Tryz.prog (tab14 B) := ⟨⟨types_cons ty3 (types_cons ty29 (types_cons ty57 (types_cons ty63 (types_cons ty84 (types_nil))))), elems_cons (by kernel_rfl) (elems_nil), by simp only [tab14, ioB]; omega⟩, cons_ok (cals_cons (cal_ok Tryz.func31 (by kernel_rfl) rfl (valid30 hB)) (cals_cons (cal_ok Tryz.func39 (by kernel_rfl) rfl (valid31 hB)) (cals_cons (cal_ok Tryz.func40 (by kernel_rfl) rfl (valid32 hB)) (cals_cons (cal_ok Tryz.func41 (by kernel_rfl) rfl (valid33 hB)) (cals_nil))))), by kernel_rfl⟩
def cDivT : Con := fun l os => match l, os with
  | [.z .str a, .z .str b], [] => some (Short a ∧ Short b, [.z .str (divV1 a b), .z .str (divV2 a b), .z (.int .i64) (divVE a b)], [])
  | _, _ => none

theorem valid14 {B : Base} (hB : Tabs B) : Valid B Tryz.prog 15 cDivT := by
  refine valid_of_J (T := tab14 B) (good14 hB).tab Tryz.func15 rfl rfl rfl ?_
  intro args os C rs os' hc hC
  unfold cDivT at hc
  split at hc
  case h_2 => cases hc
  rename_i a b
  cases hc
  refine ⟨by simp only [List.length_cons, List.length_nil, tab14]; omega, rfl, ?_⟩
  intro X hP hT hr
  have hG : MGood X.P X.T := by rw [hP, hT]; exact good14 hB
  unfold tab14 at hT
  have hX := And.intro (@cReads.eq_1) <| And.intro (@cSign.eq_1) <| And.intro (@cDivW.eq_1) <| @cText.eq_1
  simp only [Tryz.f15, argEnv, ioList, ioB]
  refine r_seq ?_
  refine q_region hG ?_ ?_ -- R0
  · trivial
  refine k_seq ?_
  refine r_seq ?_
  refine q_region hG ?_ ?_ -- R1
  · try simp only [and_true, true_and]
    exact shorts2 hC
  refine k_seq ?_
  refine r_seq ?_
  refine r_seq ?_
  refine q_region hG ?_ ?_ -- R2
  · trivial
  refine k_seq ?_
  refine q_cond ?_ ?_
  · intro hb0
    try simp only [decide_eq_true_eq, decide_eq_false_iff_not, beq_iff_eq, bne_iff_ne, Bool.not_eq_true', Bool.and_eq_true] at hb0
    refine r_seq ?_
    refine q_region hG ?_ ?_ -- R3
    · trivial
    refine k_seq ?_
    refine r_ret ?_
    refine k_seq_ret ?_
    refine ⟨[], ?_⟩
    simp only [hT, tab14, mr0, mr1, mr2, Nat.reduceLT, Nat.reduceEqDiff, Nat.reduceAdd, Nat.reduceMul, Nat.reduceSub, Nat.reduceLeDiff, Nat.reduceBEq, Nat.reduceBNe, reduceIte, reduceDIte, reduceCtorEq]
    exact divT_bad hb0
  · intro hb0
    try simp only [decide_eq_true_eq, decide_eq_false_iff_not, beq_eq_false_iff_ne, bne_eq_false_iff_eq, Bool.not_eq_false', Bool.and_eq_false_imp] at hb0
    refine r_skip ?_
    refine k_seq ?_
    refine r_seq ?_
    refine r_seq ?_
    refine q_region hG ?_ ?_ -- R4
    · try simp only [and_true, true_and]
      have h := cmp_side hb0
      exact ⟨h.2.1, h.2.2.2.1⟩
    refine k_seq ?_
    refine q_cond ?_ ?_
    · intro hb1
      try simp only [decide_eq_true_eq, decide_eq_false_iff_not, beq_iff_eq, bne_iff_ne, Bool.not_eq_true', Bool.and_eq_true] at hb1
      refine r_seq ?_
      refine q_region hG ?_ ?_ -- R5
      · trivial
      refine k_seq ?_
      refine r_ret ?_
      refine k_seq_ret ?_
      refine ⟨[], ?_⟩
      simp only [hT, tab14, mr0, mr1, mr2, Nat.reduceLT, Nat.reduceEqDiff, Nat.reduceAdd, Nat.reduceMul, Nat.reduceSub, Nat.reduceLeDiff, Nat.reduceBEq, Nat.reduceBNe, reduceIte, reduceDIte, reduceCtorEq]
      exact divT_zero hb0 hb1
    · intro hb1
      try simp only [decide_eq_true_eq, decide_eq_false_iff_not, beq_eq_false_iff_ne, bne_eq_false_iff_eq, Bool.not_eq_false', Bool.and_eq_false_imp] at hb1
      refine r_skip ?_
      refine k_seq ?_
      refine r_seq ?_
      refine q_draw hG ?_ ?_ -- R6
      · try simp only [and_true, true_and]
        have h := cmp_side hb0
        exact ⟨h.1, h.2.1, divT_pre hb0 hb1⟩
      refine k_seq ?_
      refine r_seq ?_
      refine q_draw hG ?_ ?_ -- R7
      · try simp only [and_true, true_and]
        exact divT_wok (divT_pre hb0 hb1)
      refine k_seq ?_
      refine r_ret ?_
      refine ⟨[], ?_⟩
      simp only [hT, tab14, mr0, mr1, mr2, Nat.reduceLT, Nat.reduceEqDiff, Nat.reduceAdd, Nat.reduceMul, Nat.reduceSub, Nat.reduceLeDiff, Nat.reduceBEq, Nat.reduceBNe, reduceIte, reduceDIte, reduceCtorEq]
      exact divT_fin hb0 hb1

def tab24 (B : Base) : Tab := { types := [(9, .str), (29, (.int .i64))], elems := [], cons := [(15, cDivT)], hint := [], N := 31, base := B }
theorem good24 {B : Base} (hB : Tabs B) : MGood Tryz.prog (tab24 B) := ⟨⟨types_cons ty9 (types_cons ty29 (types_nil)), elems_nil, by simp only [tab24, ioB]; omega⟩, cons_ok (cals_cons (cal_ok Tryz.func15 (by kernel_rfl) rfl (valid14 hB)) (cals_nil)), by kernel_rfl⟩
def cDivides : Con := fun l os => match l, os with
  | [.z .str a, .z .str b, .z .str q, .z .str r], [] => some (Short a ∧ Short b, [.z .bool (((divV1 a b == q) && (divV2 a b == r)) && (divVE a b == 0))], [])
  | _, _ => none

theorem valid24 {B : Base} (hB : Tabs B) : Valid B Tryz.prog 27 cDivides := by
  refine valid_of_J (T := tab24 B) (good24 hB).tab Tryz.func27 rfl rfl rfl ?_
  intro args os C rs os' hc hC
  unfold cDivides at hc
  split at hc
  case h_2 => cases hc
  rename_i a b q r
  cases hc
  refine ⟨by simp only [List.length_cons, List.length_nil, tab24]; omega, rfl, ?_⟩
  intro X hP hT hr
  have hG : MGood X.P X.T := by rw [hP, hT]; exact good24 hB
  unfold tab24 at hT
  have hX := @cDivT.eq_1
  simp only [Tryz.f27, argEnv, ioList, ioB]
  refine r_seq ?_
  refine q_region hG ?_ ?_ -- R0
  · trivial
  refine k_seq ?_
  refine r_seq ?_
  refine q_region hG ?_ ?_ -- R1
  · try simp only [and_true, true_and]
    exact hC
  refine k_seq ?_
  refine r_seq ?_
  refine q_region hG ?_ ?_ -- R2
  · try simp only [and_true, true_and]
    (repeat' (first | apply And.intro | intro _)) <;> (try simp only [decide_eq_true_eq, decide_eq_false_iff_not, Bool.not_eq_true', beq_iff_eq, Int.toNat_natCast] at *) <;> first | assumption | omega | trivial | (simp_all; done) | (simp_all; omega)
  refine k_seq ?_
  refine r_ret ?_
  refine ⟨[], ?_⟩
  simp only [hT, tab24, mr0, mr1, mr2, Nat.reduceLT, Nat.reduceEqDiff, Nat.reduceAdd, Nat.reduceMul, Nat.reduceSub, Nat.reduceLeDiff, Nat.reduceBEq, Nat.reduceBNe, reduceIte, reduceDIte, reduceCtorEq]
  skip

end Go.Proofs.YtkgbdpmhdplddaaGreatDoor
end

section
/- The functions of the package exact, one after the other: each meets its contract. -/
set_option linter.unusedSimpArgs false
set_option linter.unusedVariables false
set_option maxRecDepth 100000
namespace Go.Proofs.YtkgbdpmhdplddaaGreatDoor
open Go Go.Cm Go.Proofs

def tab46 (B : Base) : Tab := { types := [(3, (.int .i64)), (57, (.slice (.st (.pair .bool (.slice (.int .u32)))))), (63, (.st (.pair .bool (.slice (.int .u32)))))], elems := [], cons := [(38, cMul), (52, cDigits)], hint := [], N := 11, base := B }
theorem good46 {B : Base} (hB : Tabs B) : MGood Tryz.prog (tab46 B) := ⟨⟨types_cons ty3 (types_cons ty57 (types_cons ty63 (types_nil))), elems_nil, by simp only [tab46, ioB]; omega⟩, cons_ok (cals_cons (cal_ok Tryz.func38 (by kernel_rfl) rfl (valid27 hB)) (cals_cons (cal_ok Tryz.func52 (by kernel_rfl) rfl (valid47 hB)) (cals_nil))), by kernel_rfl⟩
def cPowF : Con := fun l os => match l, os with
  | [.ownP 10000000 0, .ownP 10000001 0], [.box 63 [.z .bool s, .z (.slice (.int .u32)) m], .box 57 [.z (.slice (.st (.pair .bool (.slice (.int .u32))))) l]] => some (WOK (s, m) ∧ 0 < l.length ∧ WOK (nth WT l 0) ∧ m.length ≤ 300 ∧ (nth WT l 0).2.length ≤ 300, [.z .bool (decide (ndig (dec (s, m) * dec (nth WT l 0)) ≤ 2000))], [.box 63 [.z .bool (enc (dec (s, m) * dec (nth WT l 0))).1, .z (.slice (.int .u32)) (enc (dec (s, m) * dec (nth WT l 0))).2], .box 57 [.z (.slice (.st (.pair .bool (.slice (.int .u32))))) l]])
  | _, _ => none

theorem valid46 {B : Base} (hB : Tabs B) : Valid B Tryz.prog 51 cPowF := by
  refine valid_of_J (T := tab46 B) (good46 hB).tab Tryz.func51 rfl rfl rfl ?_
  intro args os C rs os' hc hC
  unfold cPowF at hc
  split at hc
  case h_2 => cases hc
  rename_i s m l
  cases hc
  refine ⟨by simp only [List.length_cons, List.length_nil, tab46]; omega, rfl, ?_⟩
  intro X hP hT hr
  have hG : MGood X.P X.T := by rw [hP, hT]; exact good46 hB
  unfold tab46 at hT
  have hX := And.intro (@cMul.eq_1) <| @cDigits.eq_1
  simp only [Tryz.f51, argEnv, ioList, ioB]
  refine r_seq ?_
  refine q_region hG ?_ ?_ -- R0
  · trivial
  refine k_seq ?_
  refine r_seq ?_
  refine q_draw hG ?_ ?_ -- R1
  · try simp only [and_true, true_and]
    obtain ⟨c1, c2, c3, c4, c5⟩ := hC
    exact ⟨⟨by decide, Int.natCast_pos.2 c2⟩, c1, c3, Nat.lt_of_le_of_lt (Nat.add_le_add c4 c5) (by decide)⟩
  refine k_seq ?_
  refine r_seq ?_
  refine q_region hG ?_ ?_ -- R2
  · try simp only [and_true, true_and]
    obtain ⟨c1, c2, c3, c4, c5⟩ := hC
    exact ⟨enc_ok _, Nat.lt_of_le_of_lt (mul_len c1 c3 c4 c5) (by decide)⟩
  refine k_seq ?_
  refine r_ret ?_
  refine ⟨[], ?_⟩
  simp only [hT, tab46, mr0, mr1, mr2, Nat.reduceLT, Nat.reduceEqDiff, Nat.reduceAdd, Nat.reduceMul, Nat.reduceSub, Nat.reduceLeDiff, Nat.reduceBEq, Nat.reduceBNe, reduceIte, reduceDIte, reduceCtorEq]
  rw [show ∀ n : Int, dec ((enc n).1, (enc n).2) = n from dec_enc]

end Go.Proofs.YtkgbdpmhdplddaaGreatDoor
end

section
/- The functions of the package exact, one after the other: each meets its contract. -/
set_option linter.unusedSimpArgs false
set_option linter.unusedVariables false
set_option maxRecDepth 100000
namespace Go.Proofs.YtkgbdpmhdplddaaGreatDoor
open Go Go.Cm Go.Proofs

def tab23 (B : Base) : Tab := { types := [(3, (.int .i64)), (29, (.int .i64)), (57, (.slice (.st (.pair .bool (.slice (.int .u32)))))), (63, (.st (.pair .bool (.slice (.int .u32))))), (84, (.slice .str))], elems := [(84, 9)], cons := [(31, cReads), (38, cMul), (49, cSmall), (50, cCmp), (51, cPowF), (53, cTold)], hint := [], N := 57, base := B }
theorem good23 {B : Base} (hB : Tabs B) : MGood Tryz.prog (tab23 B) := ⟨⟨types_cons ty3 (types_cons ty29 (types_cons ty57 (types_cons ty63 (types_cons ty84 (types_nil))))), elems_cons (by kernel_rfl) (elems_nil), by simp only [tab23, ioB]; omega⟩, cons_ok (cals_cons (cal_ok Tryz.func31 (by kernel_rfl) rfl (valid30 hB)) (cals_cons (cal_ok Tryz.func38 (by kernel_rfl) rfl (valid27 hB)) (cals_cons (cal_ok Tryz.func49 (by kernel_rfl) rfl (valid37 hB)) (cals_cons (cal_ok Tryz.func50 (by kernel_rfl) rfl (valid34 hB)) (cals_cons (cal_ok Tryz.func51 (by kernel_rfl) rfl (valid46 hB)) (cals_cons (cal_ok Tryz.func53 (by kernel_rfl) rfl (valid48 hB)) (cals_nil))))))), by kernel_rfl⟩
def cPow : Con := fun l os => match l, os with
  | [.z .str s, .z (.int .i64) n], [] => some (Short s ∧ I64 n, [.z .str (powV s n), .z (.int .i64) (powE s n)], [])
  | _, _ => none

theorem valid23 {B : Base} (hB : Tabs B) : Valid B Tryz.prog 21 cPow := by
  refine valid_of_J (T := tab23 B) (good23 hB).tab Tryz.func21 rfl rfl rfl ?_
  intro args os C rs os' hc hC
  unfold cPow at hc
  split at hc
  case h_2 => cases hc
  rename_i s n
  cases hc
  refine ⟨by simp only [List.length_cons, List.length_nil, tab23]; omega, rfl, ?_⟩
  intro X hP hT hr
  have hG : MGood X.P X.T := by rw [hP, hT]; exact good23 hB
  unfold tab23 at hT
  have hX := And.intro (@cReads.eq_1) <| And.intro (@cSmall.eq_1) <| And.intro (@cMul.eq_1) <| And.intro (@cCmp.eq_1) <| And.intro (@cPowF.eq_1) <| @cTold.eq_1
  simp only [Tryz.f21, argEnv, ioList, ioB]
  refine r_seq ?_
  refine q_region hG ?_ ?_ -- R0
  · trivial
  refine k_seq ?_
  refine r_seq ?_
  refine q_region hG ?_ ?_ -- R1
  · try simp only [and_true, true_and]
    exact shorts1 hC.1
  refine k_seq ?_
  refine r_seq ?_
  refine r_seq ?_
  refine q_region hG ?_ ?_ -- R2
  · trivial
  refine k_seq ?_
  refine q_cond ?_ ?_
  · intro hb0
    try simp only [decide_eq_true_eq, decide_eq_false_iff_not, beq_iff_eq, bne_iff_ne, Bool.not_eq_true', Bool.and_eq_true] at hb0
    refine r_seq ?_
    refine q_region hG ?_ ?_ -- R3
    · trivial
    refine k_seq ?_
    refine r_ret ?_
    refine k_seq_ret ?_
    refine ⟨[], ?_⟩
    simp only [hT, tab23, mr0, mr1, mr2, Nat.reduceLT, Nat.reduceEqDiff, Nat.reduceAdd, Nat.reduceMul, Nat.reduceSub, Nat.reduceLeDiff, Nat.reduceBEq, Nat.reduceBNe, reduceIte, reduceDIte, reduceCtorEq]
    exact pow_bad hb0
  · intro hb0
    try simp only [decide_eq_false_iff_not, beq_eq_false_iff_ne, bne_eq_false_iff_eq] at hb0
    obtain ⟨r1, r2, r3, r4⟩ := read1 hb0
    have hI := I64.b hC.2
    refine r_skip ?_
    refine k_seq ?_
    refine r_seq ?_
    refine r_seq ?_
    refine q_region hG ?_ ?_ -- R4
    · try simp only [and_true, true_and]
      exact ⟨fun h => h, fun h => by rw [h]; rfl⟩
    refine k_seq ?_
    refine q_cond ?_ ?_
    · intro hb1
      have hnn : n < 0 ∨ 10000 < n := by simpa using hb1
      refine r_seq ?_
      refine q_region hG ?_ ?_ -- R5
      · trivial
      refine k_seq ?_
      refine r_ret ?_
      refine k_seq_ret ?_
      refine ⟨[], ?_⟩
      simp only [hT, tab23, mr0, mr1, mr2, Nat.reduceLT, Nat.reduceEqDiff, Nat.reduceAdd, Nat.reduceMul, Nat.reduceSub, Nat.reduceLeDiff, Nat.reduceBEq, Nat.reduceBNe, reduceIte, reduceDIte, reduceCtorEq]
      exact pow_out r1 hnn
    · intro hb1
      have hnn : ¬ (n < 0 ∨ 10000 < n) := by simpa using hb1
      have hin := pow_in hnn
      refine r_skip ?_
      refine k_seq ?_
      refine r_seq ?_
      refine q_region hG ?_ ?_ -- R6
      · try simp only [and_true, true_and]
        unfold I64; omega
      refine k_seq ?_
      refine r_cut (fun (z : Int) => (⟨[(6, .l (.ownP 6 0)), (1, .l (.z (.int .i64) z)), (8, .l (.ownP 8 0))], [(6, .box 57 [.z (.slice (.st (.pair .bool (.slice (.int .u32))))) (readAll [s])]), (8, .box 63 [.z .bool (enc 1).1, .z (.slice (.int .u32)) (enc 1).2])]⟩ : AState)) (fun z => z = powN (numI s) n) ?_ ?_
      · refine r_seq ?_
        refine q_draw hG ?_ ?_ -- R7
        · try simp only [and_true, true_and]
          rw [r3]
          exact ⟨⟨by omega, r2⟩, ⟨by omega, r2⟩, enc_ok _, enc_ok _, by unfold CAP; omega⟩
        refine k_seq ?_
        refine r_seq ?_
        refine q_region hG ?_ ?_ -- R8
        · try simp only [and_true, true_and]
          rw [r3]
          have hm := mul_len (x := enc (numI s)) (y := enc (numI s)) (enc_ok _) (enc_ok _) (by omega) (by omega)
          have h1 := enc_small (n := 1) (by unfold I64; omega)
          exact ⟨enc_ok _, enc_ok _, by unfold CAP; omega⟩
        refine k_seq ?_
        refine q_cond ?_ ?_
        · intro hb2
          try simp only [decide_eq_true_eq, decide_eq_false_iff_not, beq_iff_eq, bne_iff_ne, Bool.not_eq_true', Bool.and_eq_true] at hb2
          refine q_region hG ?_ ?_ -- R9
          · try simp only [and_true, true_and]
            decide
          show ∃ z, _
          simp only [ml0, ml1, Nat.reduceLT, Nat.reduceEqDiff, Nat.reduceAdd, Nat.reduceMul, Nat.reduceSub, Nat.reduceLeDiff, Nat.reduceBEq, Nat.reduceBNe, reduceIte, reduceDIte, reduceCtorEq]
          first | (have h2 := (pow_cond (y := nth WT (readAll [s]) 0) r3).1 hb2; unfold powN; rw [if_pos h2, wi (by have := Int.tmod_lt_of_pos n (show (0 : Int) < 2 by decide); have := Int.lt_tmod_of_pos n (show (0 : Int) < 2 by decide); omega) (by have := Int.tmod_lt_of_pos n (show (0 : Int) < 2 by decide); have := Int.lt_tmod_of_pos n (show (0 : Int) < 2 by decide); omega)]) | (unfold powN; rw [if_neg (fun h => hb2 ((pow_cond (y := nth WT (readAll [s]) 0) r3).2 h))])
        · intro hb2
          try simp only [decide_eq_true_eq, decide_eq_false_iff_not, beq_eq_false_iff_ne, bne_eq_false_iff_eq, Bool.not_eq_false', Bool.and_eq_false_imp] at hb2
          refine r_skip ?_
          show ∃ z, _
          simp only [ml0, ml1, Nat.reduceLT, Nat.reduceEqDiff, Nat.reduceAdd, Nat.reduceMul, Nat.reduceSub, Nat.reduceLeDiff, Nat.reduceBEq, Nat.reduceBNe, reduceIte, reduceDIte, reduceCtorEq]
          first | (have h2 := (pow_cond (y := nth WT (readAll [s]) 0) r3).1 hb2; unfold powN; rw [if_pos h2, wi (by have := Int.tmod_lt_of_pos n (show (0 : Int) < 2 by decide); have := Int.lt_tmod_of_pos n (show (0 : Int) < 2 by decide); omega) (by have := Int.tmod_lt_of_pos n (show (0 : Int) < 2 by decide); have := Int.lt_tmod_of_pos n (show (0 : Int) < 2 by decide); omega)]) | (unfold powN; rw [if_neg (fun h => hb2 ((pow_cond (y := nth WT (readAll [s]) 0) r3).2 h))])
      rintro nn hn
      try dsimp only at hn
      subst hn
      refine r_seq ?_
      refine q_region hG ?_ ?_ -- R10
      · trivial
      refine k_seq ?_
      refine r_seq ?_
      refine q_region hG ?_ ?_ -- R11
      · trivial
      refine k_seq ?_
      refine r_seq ?_
      refine r_seq ?_
      refine q_region hG ?_ ?_ -- R12
      · trivial
      refine k_seq ?_
      refine j_block ?_
      refine j_loop (fun (z : Nat × Int) => (⟨[(6, .l (.ownP 6 0)), (10, .l (.ownP 10 0)), (11, .l (.fn 51 [.p 10, .p 6])), (46, .l (.z (.int .i64) (powN (numI s) n))), (47, .l (.z (.int .i64) (z.1 : Int)))], [(6, .box 57 [.z (.slice (.st (.pair .bool (.slice (.int .u32))))) (readAll [s])]), (10, .box 63 [.z .bool (enc z.2).1, .z (.slice (.int .u32)) (enc z.2).2])]⟩ : AState)) (fun z => PowPhi s n z.1 z.2) (fun z => (powN (numI s) n).toNat - z.1) (0, 1) ?_ ?_ ?_
      · simp only [ml0, ml1, Nat.reduceLT, Nat.reduceEqDiff, Nat.reduceAdd, Nat.reduceMul, Nat.reduceSub, Nat.reduceLeDiff, Nat.reduceBEq, Nat.reduceBNe, reduceIte, reduceDIte, reduceCtorEq]
        rfl
      · exact pow_start (by omega)
      · rintro ⟨k, p⟩ hz
        try dsimp only at hz
        have hzl := ndig_len hz.hd
        refine r_seq ?_
        refine q_region hG ?_ ?_ -- R13
        · trivial
        refine k_seq ?_
        refine r_seq ?_
        refine q_cond ?_ ?_
        · intro hb3
          try simp only [decide_eq_true_eq] at hb3
          have hpn := powN_le (x := numI s) (n := n) (by omega)
          refine r_skip ?_
          refine k_seq ?_
          refine r_seq ?_
          refine j_block ?_
          refine r_seq ?_
          refine q_region hG ?_ ?_ -- R14
          · try simp only [and_true, true_and]
            rw [r3]
            exact ⟨enc_ok p, Int.natCast_pos.1 r2, enc_ok _, by omega, by omega⟩
          refine k_seq ?_
          refine q_cond ?_ ?_
          · intro hb4
            try simp only [decide_eq_true_eq, decide_eq_false_iff_not, beq_iff_eq, bne_iff_ne, Bool.not_eq_true', Bool.and_eq_true] at hb4
            refine r_seq ?_
            refine q_region hG ?_ ?_ -- R15
            · trivial
            refine k_seq ?_
            refine r_ret ?_
            refine k_block_ret ?_
            refine k_seq_ret ?_
            refine k_round_ret ?_
            refine k_block_ret ?_
            refine k_seq_ret ?_
            refine ⟨[], ?_⟩
            simp only [hT, tab23, mr0, mr1, mr2, Nat.reduceLT, Nat.reduceEqDiff, Nat.reduceAdd, Nat.reduceMul, Nat.reduceSub, Nat.reduceLeDiff, Nat.reduceBEq, Nat.reduceBNe, reduceIte, reduceDIte, reduceCtorEq]
            exact pow_long r1 hnn hz hb3 (by have h := hb4; rw [r3, dec_enc, dec_enc] at h; exact h)
          · intro hb4
            try simp only [decide_eq_true_eq, decide_eq_false_iff_not, beq_eq_false_iff_ne, bne_eq_false_iff_eq, Bool.not_eq_false', Bool.and_eq_false_imp] at hb4
            refine r_skip ?_
            refine k_block ?_
            refine k_seq ?_
            refine q_region hG ?_ ?_ -- R16
            · trivial
            show ∃ z, _
            simp only [ml0, ml1, Nat.reduceLT, Nat.reduceEqDiff, Nat.reduceAdd, Nat.reduceMul, Nat.reduceSub, Nat.reduceLeDiff, Nat.reduceBEq, Nat.reduceBNe, reduceIte, reduceDIte, reduceCtorEq]
            have hb5 : ndig (p * numI s) ≤ 2000 := by have h := hb4; rw [r3, dec_enc, dec_enc] at h; exact h
            rw [r3, dec_enc, dec_enc]
            exact ⟨k + 1, by rw [wi (by omega) (by omega)]; simp, p * numI s, rfl, rfl, pow_next hz hb3 hb5, by omega⟩
        · intro hb3
          try simp only [decide_eq_true_eq, decide_eq_false_iff_not, beq_eq_false_iff_ne, bne_eq_false_iff_eq, Bool.not_eq_false', Bool.and_eq_false_imp] at hb3
          refine r_exit ?_
          refine k_seq_exit ?_
          refine k_round_exit ?_
          refine k_block_exit ?_
          refine k_seq ?_
          refine r_seq ?_
          refine q_region hG ?_ ?_ -- R17
          · try simp only [and_true, true_and]
            exact ⟨enc_ok p, by have := ndig_len hz.hd; unfold CAP; omega⟩
          refine k_seq ?_
          refine r_ret ?_
          refine ⟨[], ?_⟩
          simp only [hT, tab23, mr0, mr1, mr2, Nat.reduceLT, Nat.reduceEqDiff, Nat.reduceAdd, Nat.reduceMul, Nat.reduceSub, Nat.reduceLeDiff, Nat.reduceBEq, Nat.reduceBNe, reduceIte, reduceDIte, reduceCtorEq]
          exact pow_done r1 hnn hz hb3

end Go.Proofs.YtkgbdpmhdplddaaGreatDoor
end

section
/- The functions of the package exact, one after the other: each meets its contract. -/
set_option linter.unusedSimpArgs false
set_option linter.unusedVariables false
set_option maxRecDepth 100000
namespace Go.Proofs.YtkgbdpmhdplddaaGreatDoor
open Go Go.Cm Go.Proofs

def tab8 (B : Base) : Tab := { types := [(3, (.int .i64)), (9, .str), (29, (.int .i64)), (50, (.arr 5 .str))], elems := [], cons := [(9, cCheck), (11, cIntT), (14, cMulT), (15, cDivT), (16, cGcdT), (21, cPow), (22, cCmpT), (23, cIs), (24, cAddT), (25, cSubT), (26, cFails), (27, cDivides), (54, cIsF), (57, cFailsF)], hint := [], N := 144, base := B }
theorem good8 {B : Base} (hB : Tabs B) : MGood Tryz.prog (tab8 B) := ⟨⟨types_cons ty3 (types_cons ty9 (types_cons ty29 (types_cons ty50 (types_nil)))), elems_nil, by simp only [tab8, ioB]; omega⟩, cons_ok (cals_cons (cal_ok Tryz.func9 (by kernel_rfl) rfl (valid20 hB)) (cals_cons (cal_ok Tryz.func11 (by kernel_rfl) rfl (valid19 hB)) (cals_cons (cal_ok Tryz.func14 (by kernel_rfl) rfl (valid11 hB)) (cals_cons (cal_ok Tryz.func15 (by kernel_rfl) rfl (valid14 hB)) (cals_cons (cal_ok Tryz.func16 (by kernel_rfl) rfl (valid16 hB)) (cals_cons (cal_ok Tryz.func21 (by kernel_rfl) rfl (valid23 hB)) (cals_cons (cal_ok Tryz.func22 (by kernel_rfl) rfl (valid15 hB)) (cals_cons (cal_ok Tryz.func23 (by kernel_rfl) rfl (valid12 hB)) (cals_cons (cal_ok Tryz.func24 (by kernel_rfl) rfl (valid10 hB)) (cals_cons (cal_ok Tryz.func25 (by kernel_rfl) rfl (valid13 hB)) (cals_cons (cal_ok Tryz.func26 (by kernel_rfl) rfl (valid22 hB)) (cals_cons (cal_ok Tryz.func27 (by kernel_rfl) rfl (valid24 hB)) (cals_cons (cal_ok Tryz.func54 (by kernel_rfl) rfl (valid28 hB)) (cals_cons (cal_ok Tryz.func57 (by kernel_rfl) rfl (valid45 hB)) (cals_nil))))))))))))))), by kernel_rfl⟩
def cWorks : Con := fun l os => match l, os with
  | [], [] => some (True, [.z .bool true], [])
  | _, _ => none

theorem valid8 {B : Base} (hB : Tabs B) : Valid B Tryz.prog 6 cWorks := by
  refine valid_of_J (T := tab8 B) (good8 hB).tab Tryz.func6 rfl rfl rfl ?_
  intro args os C rs os' hc hC
  unfold cWorks at hc
  split at hc
  case h_2 => cases hc
  cases hc
  refine ⟨by simp only [List.length_cons, List.length_nil, tab8]; omega, rfl, ?_⟩
  intro X hP hT hr
  have hG : MGood X.P X.T := by rw [hP, hT]; exact good8 hB
  unfold tab8 at hT
  have hX := And.intro (@cIntT.eq_1) <| And.intro (@cDivT.eq_1) <| And.intro (@cCmpT.eq_1) <| And.intro (@cCheck.eq_1) <| And.intro (@cIs.eq_1) <| And.intro (@cAddT.eq_1) <| And.intro (@cIsF.eq_1) <| And.intro (@cSubT.eq_1) <| And.intro (@cMulT.eq_1) <| And.intro (@cGcdT.eq_1) <| And.intro (@cPow.eq_1) <| And.intro (@cFails.eq_1) <| And.intro (@cFailsF.eq_1) <| @cDivides.eq_1
  simp only [Tryz.f6, argEnv, ioList, ioB]
  refine r_seq ?_
  refine q_region hG ?_ ?_ -- R0
  · trivial
  refine k_seq ?_
  refine r_seq ?_
  refine q_region hG ?_ ?_ -- R1
  · try simp only [and_true, true_and]
    simp only [Short, List.length_cons, List.length_nil]; decide
  refine k_seq ?_
  refine r_seq ?_
  refine q_region hG ?_ ?_ -- R2
  · try simp only [and_true, true_and]
    simp only [Short, List.length_cons, List.length_nil]; decide
  refine k_seq ?_
  refine r_seq ?_
  refine q_region hG ?_ ?_ -- R3
  · try simp only [and_true, true_and]
    simp only [Short, List.length_cons, List.length_nil]; decide
  refine k_seq ?_
  refine r_seq ?_
  refine q_region hG ?_ ?_ -- R4
  · try simp only [and_true, true_and]
    simp only [Short, List.length_cons, List.length_nil]; decide
  refine k_seq ?_
  refine r_seq ?_
  refine r_seq ?_
  refine q_region hG ?_ ?_ -- R5
  · trivial
  refine k_seq ?_
  refine j_block ?_
  refine j_loop (fun (z : Nat) => (⟨[(1, .l (.z (.int .i64) (intV ([57, 50, 50, 51, 51, 55, 50, 48, 51, 54, 56, 53, 52, 55, 55, 53, 56, 48, 55] : List UInt8)))), (2, .l (.z (.int .i64) (intE ([57, 50, 50, 51, 51, 55, 50, 48, 51, 54, 56, 53, 52, 55, 55, 53, 56, 48, 55] : List UInt8)))), (4, .l (.z (.int .i64) (intE ([57, 50, 50, 51, 51, 55, 50, 48, 51, 54, 56, 53, 52, 55, 55, 53, 56, 48, 56] : List UInt8)))), (7, .l (.z (.int .i64) (divVE [49] [48]))), (8, .l (.z (.int .i64) (cmpV [45, 53] [51]))), (9, .l (.z (.int .i64) (chkAll [[45, 53], [51]]))), (30, .l (.z (.arr 5 .str) badTexts)), (31, .l (.z (.int .i64) (z : Int)))], []⟩ : AState)) (fun z => z ≤ 5) (fun z => 5 - z) 0 ?_ ?_ ?_
  · simp only [ml0, ml1, Nat.reduceLT, Nat.reduceEqDiff, Nat.reduceAdd, Nat.reduceMul, Nat.reduceSub, Nat.reduceLeDiff, Nat.reduceBEq, Nat.reduceBNe, reduceIte, reduceDIte, reduceCtorEq]
    exact ⟨rfl, rfl⟩
  · omega
  · rintro k hk
    try dsimp only at hk
    refine r_seq ?_
    refine q_region hG ?_ ?_ -- R6
    · trivial
    refine k_seq ?_
    refine r_seq ?_
    refine q_cond ?_ ?_
    · intro hb0
      try simp only [decide_eq_true_eq, decide_eq_false_iff_not, beq_iff_eq, bne_iff_ne, Bool.not_eq_true', Bool.and_eq_true] at hb0
      refine r_skip ?_
      refine k_seq ?_
      refine r_seq ?_
      refine j_block ?_
      refine r_seq ?_
      refine q_region hG ?_ ?_ -- R7
      · try simp only [and_true, true_and]
        exact ⟨by omega, by show (k : Int) < 5; omega⟩
      refine k_seq ?_
      refine r_seq ?_
      refine q_region hG ?_ ?_ -- R8
      · try simp only [and_true, true_and]
        exact bad_short k
      refine k_seq ?_
      refine q_cond ?_ ?_
      · intro hb1
        simp only [decide_eq_true_eq, bne_iff_ne] at hb1
        exact absurd (bad_chk (by omega)) hb1
      · intro hb1
        try simp only [decide_eq_true_eq, decide_eq_false_iff_not, beq_eq_false_iff_ne, bne_eq_false_iff_eq, Bool.not_eq_false', Bool.and_eq_false_imp] at hb1
        refine r_skip ?_
        refine k_block ?_
        refine k_seq ?_
        refine q_region hG ?_ ?_ -- R10
        · trivial
        show ∃ z, _
        simp only [ml0, ml1, Nat.reduceLT, Nat.reduceEqDiff, Nat.reduceAdd, Nat.reduceMul, Nat.reduceSub, Nat.reduceLeDiff, Nat.reduceBEq, Nat.reduceBNe, reduceIte, reduceDIte, reduceCtorEq]
        exact ⟨k + 1, by rw [wi (by omega) (by omega)]; simp, by omega, by omega⟩
    · intro hb0
      try simp only [decide_eq_true_eq, decide_eq_false_iff_not, beq_eq_false_iff_ne, bne_eq_false_iff_eq, Bool.not_eq_false', Bool.and_eq_false_imp] at hb0
      refine r_exit ?_
      refine k_seq_exit ?_
      refine k_round_exit ?_
      refine k_block_exit ?_
      refine k_seq ?_
      refine r_cut (fun (z : Unit) => (⟨[(1, .l (.z (.int .i64) (intV ([57, 50, 50, 51, 51, 55, 50, 48, 51, 54, 56, 53, 52, 55, 55, 53, 56, 48, 55] : List UInt8)))), (2, .l (.z (.int .i64) (intE ([57, 50, 50, 51, 51, 55, 50, 48, 51, 54, 56, 53, 52, 55, 55, 53, 56, 48, 55] : List UInt8)))), (4, .l (.z (.int .i64) (intE ([57, 50, 50, 51, 51, 55, 50, 48, 51, 54, 56, 53, 52, 55, 55, 53, 56, 48, 56] : List UInt8)))), (7, .l (.z (.int .i64) (divVE [49] [48]))), (8, .l (.z (.int .i64) (cmpV [45, 53] [51]))), (9, .l (.z (.int .i64) (chkAll [[45, 53], [51]]))), (12, .l (.z .bool true))], []⟩ : AState)) (fun z => True) ?_ ?_
      · refine q_region hG ?_ ?_ -- R11
        · try simp only [and_true, true_and]
          simp [wk1.1, wk1.2, wk2.1, wk2.2, wk3.1, wk3.2, wk4.1, wk4.2, wk5.1, wk5.2, wk6.1, wk6.2, wk7.1, wk7.2, wk8.1, wk8.2, wk9.1, wk9.2, wk10.1, wk10.2, wk11.1, wk11.2.1, wk11.2.2, wk12.1, wk12.2.1, wk12.2.2, wk13.1, wk13.2.1, wk13.2.2, wk14.1, wk14.2.1, wk14.2.2, wk15.1, wk15.2.1, wk15.2.2, wk16.1, wk16.2.1, wk16.2.2, Short]
        show ∃ z, _
        simp only [ml0, ml1, Nat.reduceLT, Nat.reduceEqDiff, Nat.reduceAdd, Nat.reduceMul, Nat.reduceSub, Nat.reduceLeDiff, Nat.reduceBEq, Nat.reduceBNe, reduceIte, reduceDIte, reduceCtorEq]
        simp [wk1.1, wk1.2, wk2.1, wk2.2, wk3.1, wk3.2, wk4.1, wk4.2, wk5.1, wk5.2, wk6.1, wk6.2, wk7.1, wk7.2, wk8.1, wk8.2, wk9.1, wk9.2, wk10.1, wk10.2, wk11.1, wk11.2.1, wk11.2.2, wk12.1, wk12.2.1, wk12.2.2, wk13.1, wk13.2.1, wk13.2.2, wk14.1, wk14.2.1, wk14.2.2, wk15.1, wk15.2.1, wk15.2.2, wk16.1, wk16.2.1, wk16.2.2]
      rintro ⟨⟩ hu
      try dsimp only at hu
      refine r_cut (fun (z : Unit) => (⟨[(1, .l (.z (.int .i64) (intV ([57, 50, 50, 51, 51, 55, 50, 48, 51, 54, 56, 53, 52, 55, 55, 53, 56, 48, 55] : List UInt8)))), (2, .l (.z (.int .i64) (intE ([57, 50, 50, 51, 51, 55, 50, 48, 51, 54, 56, 53, 52, 55, 55, 53, 56, 48, 55] : List UInt8)))), (4, .l (.z (.int .i64) (intE ([57, 50, 50, 51, 51, 55, 50, 48, 51, 54, 56, 53, 52, 55, 55, 53, 56, 48, 56] : List UInt8)))), (7, .l (.z (.int .i64) (divVE [49] [48]))), (8, .l (.z (.int .i64) (cmpV [45, 53] [51]))), (9, .l (.z (.int .i64) (chkAll [[45, 53], [51]]))), (12, .l (.z .bool true))], []⟩ : AState)) (fun z => True) ?_ ?_
      · refine q_region hG ?_ ?_ -- R12
        · try simp only [and_true, true_and]
          simp [wk1.1, wk1.2, wk2.1, wk2.2, wk3.1, wk3.2, wk4.1, wk4.2, wk5.1, wk5.2, wk6.1, wk6.2, wk7.1, wk7.2, wk8.1, wk8.2, wk9.1, wk9.2, wk10.1, wk10.2, wk11.1, wk11.2.1, wk11.2.2, wk12.1, wk12.2.1, wk12.2.2, wk13.1, wk13.2.1, wk13.2.2, wk14.1, wk14.2.1, wk14.2.2, wk15.1, wk15.2.1, wk15.2.2, wk16.1, wk16.2.1, wk16.2.2, Short, I64]
        show ∃ z, _
        simp only [ml0, ml1, Nat.reduceLT, Nat.reduceEqDiff, Nat.reduceAdd, Nat.reduceMul, Nat.reduceSub, Nat.reduceLeDiff, Nat.reduceBEq, Nat.reduceBNe, reduceIte, reduceDIte, reduceCtorEq]
        simp [wk1.1, wk1.2, wk2.1, wk2.2, wk3.1, wk3.2, wk4.1, wk4.2, wk5.1, wk5.2, wk6.1, wk6.2, wk7.1, wk7.2, wk8.1, wk8.2, wk9.1, wk9.2, wk10.1, wk10.2, wk11.1, wk11.2.1, wk11.2.2, wk12.1, wk12.2.1, wk12.2.2, wk13.1, wk13.2.1, wk13.2.2, wk14.1, wk14.2.1, wk14.2.2, wk15.1, wk15.2.1, wk15.2.2, wk16.1, wk16.2.1, wk16.2.2]
      rintro ⟨⟩ hu
      try dsimp only at hu
      refine r_seq ?_
      refine q_region hG ?_ ?_ -- R13
      · try simp only [and_true, true_and]
        simp [wk1.1, wk1.2, wk2.1, wk2.2, wk3.1, wk3.2, wk4.1, wk4.2, wk5.1, wk5.2, wk6.1, wk6.2, wk7.1, wk7.2, wk8.1, wk8.2, wk9.1, wk9.2, wk10.1, wk10.2, wk11.1, wk11.2.1, wk11.2.2, wk12.1, wk12.2.1, wk12.2.2, wk13.1, wk13.2.1, wk13.2.2, wk14.1, wk14.2.1, wk14.2.2, wk15.1, wk15.2.1, wk15.2.2, wk16.1, wk16.2.1, wk16.2.2, Short]
      refine k_seq ?_
      refine r_ret ?_
      refine ⟨[], ?_⟩
      simp only [hT, tab8, mr0, mr1, mr2, Nat.reduceLT, Nat.reduceEqDiff, Nat.reduceAdd, Nat.reduceMul, Nat.reduceSub, Nat.reduceLeDiff, Nat.reduceBEq, Nat.reduceBNe, reduceIte, reduceDIte, reduceCtorEq]
      simp [wk1.1, wk1.2, wk2.1, wk2.2, wk3.1, wk3.2, wk4.1, wk4.2, wk5.1, wk5.2, wk6.1, wk6.2, wk7.1, wk7.2, wk8.1, wk8.2, wk9.1, wk9.2, wk10.1, wk10.2, wk11.1, wk11.2.1, wk11.2.2, wk12.1, wk12.2.1, wk12.2.2, wk13.1, wk13.2.1, wk13.2.2, wk14.1, wk14.2.1, wk14.2.2, wk15.1, wk15.2.1, wk15.2.2, wk16.1, wk16.2.1, wk16.2.2]

end Go.Proofs.YtkgbdpmhdplddaaGreatDoor
end
