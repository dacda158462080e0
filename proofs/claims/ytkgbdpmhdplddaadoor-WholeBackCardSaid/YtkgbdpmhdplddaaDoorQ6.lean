/- Proved: the law WholeBack returns true for every two integers and every two small integers. Conditions: those of its row alone (the package-level variables that the row lists start as the program lays them). -/
import Derived.Test.YtkgbdpmhdplddaaDoorQ3
import Derived.Test.YtkgbdpmhdplddaaDoorQ4
import Derived.Test.YtkgbdpmhdplddaaDoorProg
import Derived.Test.YtkgbdpmhdplddaaDoorQ5
import Derived.WalkKit
set_option linter.all false
set_option linter.unusedSimpArgs false
set_option linter.unusedVariables false

section
/- The texts of machine integers. No program is in sight here. -/
namespace Go.Cm
open Go.Proofs

theorem i64_bnd {n : Int} (h : I64 n) : Bnd n 20 := by
  unfold I64 at h
  unfold Bnd
  have : (10 : Nat) ^ 20 = 100000000000000000000 := by decide
  omega

theorem okt_of {n : Int} {k : Nat} (h : Bnd n k) (hk : k ≤ 2000) : OKT (Lib.itoa n) n := by
  have h1 := itoa_facts n
  have h2 := h.digs hk
  exact ⟨by rw [h1.1, if_neg (by omega)], h1.2⟩

theorem okt_i64 {n : Int} (h : I64 n) : OKT (Lib.itoa n) n := okt_of (i64_bnd h) (by decide)

theorem int_okt {s : List UInt8} {n : Int} (h : OKT s n) (hn : I64 n) : intV s = n ∧ intE s = 0 ∧ chk s = 0 := by
  have hb : inI64 n = true := by unfold inI64; unfold I64 at hn; simp [hn.1, hn.2]
  unfold intV intE
  rw [h.c, h.v, hb]
  simp

theorem three_i64 {l : List Int} (h : ∀ x ∈ l, I64 x) {k : Nat} (hk : k < l.length) : I64 (nth (.int .i64) l (k : Int)) := by
  unfold nth
  rw [Int.toNat_natCast, List.getD_eq_getElem?_getD, List.getElem?_eq_getElem hk]
  exact h _ (List.getElem_mem hk)

/-- Comparing, told by the order. -/
theorem cmp_law (n m : Int) : (decide (cmpI n m < 0) = decide (n < m)) ∧ (decide (0 < cmpI n m) = decide (m < n)) ∧ ¬ (cmpI n m < -1) ∧ ¬ (1 < cmpI n m) := by
  unfold cmpI
  split
  · simp [*]; omega
  · split <;> simp [*] <;> omega

theorem i32_add {a b : Int} (ha : -2147483648 ≤ a ∧ a ≤ 2147483647) (hb : -2147483648 ≤ b ∧ b ≤ 2147483647) : I64 (a + b) ∧ I64 (a - b) ∧ I64 (a * b) := by
  unfold I64
  have h1 : a * b ≤ 2147483648 * 2147483648 := by
    have := Int.natAbs_mul a b
    have h2 : a.natAbs * b.natAbs ≤ 2147483648 * 2147483648 := Nat.mul_le_mul (by omega) (by omega)
    omega
  have h3 : -(2147483648 * 2147483648) ≤ a * b := by
    have := Int.natAbs_mul a b
    have h2 : a.natAbs * b.natAbs ≤ 2147483648 * 2147483648 := Nat.mul_le_mul (by omega) (by omega)
    omega
  omega

theorem wi32 {a : Int} (ha : -2147483648 ≤ a ∧ a ≤ 2147483647) : IntKind.i64.wrap a = a := wi (by omega) (by omega)
theorem i32_i64 {a : Int} (ha : -2147483648 ≤ a ∧ a ≤ 2147483647) : I64 a := by unfold I64; omega
theorem I64.w {a : Int} (h : I64 a) : IntKind.i64.wrap a = a := wi h.1 (by have := h.2; omega)
theorem back_list {n m a : Int} (hn : I64 n) (hm : I64 m) (ha : -2147483648 ≤ a ∧ a ≤ 2147483647) : ∀ x ∈ [n, m, IntKind.i64.wrap a], I64 x := by
  intro x hx
  simp only [List.mem_cons, List.not_mem_nil, or_false] at hx
  rcases hx with rfl | rfl | rfl
  · exact hn
  · exact hm
  · rw [wi32 ha]; exact i32_i64 ha

/-- Sums and products of small numbers, as texts. -/
theorem back_law {a b v : Int} (ha : I64 a) (hb : I64 b) (hv : I64 v) : resS (chkAll [Lib.itoa a, Lib.itoa b]) v = Lib.itoa v ∧ resE (chkAll [Lib.itoa a, Lib.itoa b]) v = 0 :=
  (okt_i64 ha).is (okt_i64 hb) (okt_i64 hv) rfl

end Go.Cm
end

section
/- The functions of the package exact, one after the other: each meets its contract. -/
set_option linter.unusedSimpArgs false
set_option linter.unusedVariables false
set_option maxRecDepth 100000
namespace Go.Proofs.YtkgbdpmhdplddaaDoor
open Go Go.Cm Go.Proofs

def tab6 (B : Base) : Tab := { types := [(3, (.int .i64)), (4, .bool), (9, .str), (21, (.int .i32)), (27, (.int .i64)), (39, (.arr 3 (.int .i64)))], elems := [], cons := [(8, cWorks), (10, cAddT), (11, cMulT), (12, cIs), (13, cSubT), (15, cCmpT), (18, cOf), (19, cIntT), (20, cCheck), (28, cIsF)], hint := [], N := 129, base := B }
theorem good6 {B : Base} (hB : Tabs B) : MGood Tryd.prog (tab6 B) := ⟨⟨types_cons ty3 (types_cons ty4 (types_cons ty9 (types_cons ty21 (types_cons ty27 (types_cons ty39 (types_nil)))))), elems_nil, by simp only [tab6, ioB]; omega⟩, cons_ok (cals_cons (cal_ok Tryd.func8 (by kernel_rfl) rfl (valid8 hB)) (cals_cons (cal_ok Tryd.func10 (by kernel_rfl) rfl (valid10 hB)) (cals_cons (cal_ok Tryd.func11 (by kernel_rfl) rfl (valid11 hB)) (cals_cons (cal_ok Tryd.func12 (by kernel_rfl) rfl (valid12 hB)) (cals_cons (cal_ok Tryd.func13 (by kernel_rfl) rfl (valid13 hB)) (cals_cons (cal_ok Tryd.func15 (by kernel_rfl) rfl (valid15 hB)) (cals_cons (cal_ok Tryd.func18 (by kernel_rfl) rfl (valid18 hB)) (cals_cons (cal_ok Tryd.func19 (by kernel_rfl) rfl (valid19 hB)) (cals_cons (cal_ok Tryd.func20 (by kernel_rfl) rfl (valid20 hB)) (cals_cons (cal_ok Tryd.func28 (by kernel_rfl) rfl (valid28 hB)) (cals_nil))))))))))), by kernel_rfl⟩
def cBackLaw : Con := fun l os => match l, os with
  | [.z (.int .i64) n, .z (.int .i64) m, .z (.int .i32) a, .z (.int .i32) b], [] => some (I64 n ∧ I64 m ∧ (-2147483648 ≤ a ∧ a ≤ 2147483647) ∧ (-2147483648 ≤ b ∧ b ≤ 2147483647), [.z .bool true], [])
  | _, _ => none

set_option maxHeartbeats 1000000 in
theorem valid6 {B : Base} (hB : Tabs B) : Valid B Tryd.prog 6 cBackLaw := by
  refine valid_of_J (T := tab6 B) (good6 hB).tab Tryd.func6 rfl rfl rfl ?_
  intro args os C rs os' hc hC
  unfold cBackLaw at hc
  split at hc
  case h_2 => cases hc
  rename_i n m a b
  cases hc
  refine ⟨by simp only [List.length_cons, List.length_nil, tab6]; omega, rfl, ?_⟩
  intro X hP hT hr
  have hG : MGood X.P X.T := by rw [hP, hT]; exact good6 hB
  simp only [Tryd.f6, argEnv, ioList, ioB]
  refine r_seq ?_
  refine r_region hG (by simp only [hT, tab6, cWorks, cOf, cIntT, cCheck, cCmpT, cIs, cAddT, cIsF, cSubT, cMulT, mx0, mx1, mx2, mx3, mx4, mx5, effOp, endCall, callOp, appendOp, sliceLV, Ty.fieldTy, Ty.fieldOf, Nat.reduceLT, Nat.reduceEqDiff, Nat.reduceAdd, Nat.reduceMul, Nat.reduceSub, Nat.reduceLeDiff, Nat.reduceBEq, Nat.reduceBNe, reduceIte, reduceDIte, reduceCtorEq]; rfl) ?_ ?_ -- R0
  · trivial
  refine k_seq ?_
  refine r_seq ?_
  refine r_seq ?_
  refine r_region hG (by simp only [hT, tab6, cWorks, cOf, cIntT, cCheck, cCmpT, cIs, cAddT, cIsF, cSubT, cMulT, mx0, mx1, mx2, mx3, mx4, mx5, effOp, endCall, callOp, appendOp, sliceLV, Ty.fieldTy, Ty.fieldOf, Nat.reduceLT, Nat.reduceEqDiff, Nat.reduceAdd, Nat.reduceMul, Nat.reduceSub, Nat.reduceLeDiff, Nat.reduceBEq, Nat.reduceBNe, reduceIte, reduceDIte, reduceCtorEq]; rfl) ?_ ?_ -- R1
  · trivial
  refine k_seq ?_
  refine r_cond (by simp only [hT, tab6, mx0, mx1, mx2, mx3, mx4, mx5, effOp, endCall, callOp, appendOp, sliceLV, Ty.fieldTy, Ty.fieldOf, Nat.reduceLT, Nat.reduceEqDiff, Nat.reduceAdd, Nat.reduceMul, Nat.reduceSub, Nat.reduceLeDiff, Nat.reduceBEq, Nat.reduceBNe, reduceIte, reduceDIte, reduceCtorEq]; rfl) ?_ ?_
  · intro hb0
    cases hb0
  · intro hb0
    try simp only [decide_eq_true_eq, decide_eq_false_iff_not, beq_eq_false_iff_ne, bne_eq_false_iff_eq, Bool.not_eq_false', Bool.and_eq_false_imp] at hb0
    refine r_skip ?_
    refine k_seq ?_
    refine r_seq ?_
    refine r_seq ?_
    refine r_region hG (by simp only [hT, tab6, cWorks, cOf, cIntT, cCheck, cCmpT, cIs, cAddT, cIsF, cSubT, cMulT, mx0, mx1, mx2, mx3, mx4, mx5, effOp, endCall, callOp, appendOp, sliceLV, Ty.fieldTy, Ty.fieldOf, Nat.reduceLT, Nat.reduceEqDiff, Nat.reduceAdd, Nat.reduceMul, Nat.reduceSub, Nat.reduceLeDiff, Nat.reduceBEq, Nat.reduceBNe, reduceIte, reduceDIte, reduceCtorEq]; rfl) ?_ ?_ -- R3
    · trivial
    refine k_seq ?_
    refine j_block ?_
    refine j_loop (fun (z : Nat) => (⟨[(0, .l (.z (.int .i64) n)), (1, .l (.z (.int .i64) m)), (2, .l (.z (.int .i32) a)), (3, .l (.z (.int .i32) b)), (24, .l (.z (.arr 3 (.int .i64)) [n, m, IntKind.i64.wrap a])), (25, .l (.z (.int .i64) (z : Int)))], []⟩ : AState)) (fun z => z ≤ 3) (fun z => 3 - z) 0 ?_ ?_ ?_
    · simp only [ml0, ml1, Nat.reduceLT, Nat.reduceEqDiff, Nat.reduceAdd, Nat.reduceMul, Nat.reduceSub, Nat.reduceLeDiff, Nat.reduceBEq, Nat.reduceBNe, reduceIte, reduceDIte, reduceCtorEq]
      rfl
    · omega
    · rintro k hk
      try dsimp only at hk
      obtain ⟨hn, hm, ha, hb⟩ := hC
      have hl := back_list hn hm ha
      refine r_seq ?_
      refine r_region hG (by simp only [hT, tab6, cWorks, cOf, cIntT, cCheck, cCmpT, cIs, cAddT, cIsF, cSubT, cMulT, mx0, mx1, mx2, mx3, mx4, mx5, effOp, endCall, callOp, appendOp, sliceLV, Ty.fieldTy, Ty.fieldOf, Nat.reduceLT, Nat.reduceEqDiff, Nat.reduceAdd, Nat.reduceMul, Nat.reduceSub, Nat.reduceLeDiff, Nat.reduceBEq, Nat.reduceBNe, reduceIte, reduceDIte, reduceCtorEq]; rfl) ?_ ?_ -- R4
      · trivial
      refine k_seq ?_
      refine r_seq ?_
      refine r_cond (by simp only [hT, tab6, mx0, mx1, mx2, mx3, mx4, mx5, effOp, endCall, callOp, appendOp, sliceLV, Ty.fieldTy, Ty.fieldOf, Nat.reduceLT, Nat.reduceEqDiff, Nat.reduceAdd, Nat.reduceMul, Nat.reduceSub, Nat.reduceLeDiff, Nat.reduceBEq, Nat.reduceBNe, reduceIte, reduceDIte, reduceCtorEq]; rfl) ?_ ?_
      · intro hb1
        try simp only [decide_eq_true_eq] at hb1
        have hx := three_i64 hl (k := k) (by simp only [List.length_cons, List.length_nil]; omega)
        have ox := okt_i64 hx
        have vx := int_okt ox hx
        have sx := ox.short
        refine r_skip ?_
        refine k_seq ?_
        refine r_seq ?_
        refine j_block ?_
        refine r_seq ?_
        refine r_region hG (by simp only [hT, tab6, cWorks, cOf, cIntT, cCheck, cCmpT, cIs, cAddT, cIsF, cSubT, cMulT, mx0, mx1, mx2, mx3, mx4, mx5, effOp, endCall, callOp, appendOp, sliceLV, Ty.fieldTy, Ty.fieldOf, Nat.reduceLT, Nat.reduceEqDiff, Nat.reduceAdd, Nat.reduceMul, Nat.reduceSub, Nat.reduceLeDiff, Nat.reduceBEq, Nat.reduceBNe, reduceIte, reduceDIte, reduceCtorEq]; rfl) ?_ ?_ -- R5
        · try simp only [and_true, true_and]
          exact ⟨by omega, by show (k : Int) < 3; omega⟩
        refine k_seq ?_
        refine r_seq ?_
        refine r_region hG (by simp only [hT, tab6, cWorks, cOf, cIntT, cCheck, cCmpT, cIs, cAddT, cIsF, cSubT, cMulT, mx0, mx1, mx2, mx3, mx4, mx5, effOp, endCall, callOp, appendOp, sliceLV, Ty.fieldTy, Ty.fieldOf, Nat.reduceLT, Nat.reduceEqDiff, Nat.reduceAdd, Nat.reduceMul, Nat.reduceSub, Nat.reduceLeDiff, Nat.reduceBEq, Nat.reduceBNe, reduceIte, reduceDIte, reduceCtorEq]; rfl) ?_ ?_ -- R6
        · try simp only [and_true, true_and]
          exact hx
        refine k_seq ?_
        refine r_seq ?_
        refine r_region hG (by simp only [hT, tab6, cWorks, cOf, cIntT, cCheck, cCmpT, cIs, cAddT, cIsF, cSubT, cMulT, mx0, mx1, mx2, mx3, mx4, mx5, effOp, endCall, callOp, appendOp, sliceLV, Ty.fieldTy, Ty.fieldOf, Nat.reduceLT, Nat.reduceEqDiff, Nat.reduceAdd, Nat.reduceMul, Nat.reduceSub, Nat.reduceLeDiff, Nat.reduceBEq, Nat.reduceBNe, reduceIte, reduceDIte, reduceCtorEq]; rfl) ?_ ?_ -- R7
        · try simp only [and_true, true_and]
          exact ox.short
        refine k_seq ?_
        refine r_seq ?_
        refine r_region hG (by simp only [hT, tab6, cWorks, cOf, cIntT, cCheck, cCmpT, cIs, cAddT, cIsF, cSubT, cMulT, mx0, mx1, mx2, mx3, mx4, mx5, effOp, endCall, callOp, appendOp, sliceLV, Ty.fieldTy, Ty.fieldOf, Nat.reduceLT, Nat.reduceEqDiff, Nat.reduceAdd, Nat.reduceMul, Nat.reduceSub, Nat.reduceLeDiff, Nat.reduceBEq, Nat.reduceBNe, reduceIte, reduceDIte, reduceCtorEq]; rfl) ?_ ?_ -- R8
        · try simp only [and_true, true_and]
          (repeat' (first | apply And.intro | intro _)) <;> (try simp only [decide_eq_true_eq, decide_eq_false_iff_not, Bool.not_eq_true', beq_iff_eq, Int.toNat_natCast] at *) <;> first | assumption | omega | trivial | (simp_all; done) | (simp_all; omega)
        refine k_seq ?_
        refine r_cond (by simp only [hT, tab6, mx0, mx1, mx2, mx3, mx4, mx5, effOp, endCall, callOp, appendOp, sliceLV, Ty.fieldTy, Ty.fieldOf, Nat.reduceLT, Nat.reduceEqDiff, Nat.reduceAdd, Nat.reduceMul, Nat.reduceSub, Nat.reduceLeDiff, Nat.reduceBEq, Nat.reduceBNe, reduceIte, reduceDIte, reduceCtorEq]; rfl) ?_ ?_
        · intro hb2
          simp [vx.1, vx.2.1, vx.2.2] at hb2
        · intro hb2
          try simp only [decide_eq_true_eq, decide_eq_false_iff_not, beq_eq_false_iff_ne, bne_eq_false_iff_eq, Bool.not_eq_false', Bool.and_eq_false_imp] at hb2
          refine r_skip ?_
          refine k_block ?_
          refine k_seq ?_
          refine r_region hG (by simp only [hT, tab6, cWorks, cOf, cIntT, cCheck, cCmpT, cIs, cAddT, cIsF, cSubT, cMulT, mx0, mx1, mx2, mx3, mx4, mx5, effOp, endCall, callOp, appendOp, sliceLV, Ty.fieldTy, Ty.fieldOf, Nat.reduceLT, Nat.reduceEqDiff, Nat.reduceAdd, Nat.reduceMul, Nat.reduceSub, Nat.reduceLeDiff, Nat.reduceBEq, Nat.reduceBNe, reduceIte, reduceDIte, reduceCtorEq]; rfl) ?_ ?_ -- R10
          · trivial
          show ∃ z, _
          simp only [ml0, ml1, Nat.reduceLT, Nat.reduceEqDiff, Nat.reduceAdd, Nat.reduceMul, Nat.reduceSub, Nat.reduceLeDiff, Nat.reduceBEq, Nat.reduceBNe, reduceIte, reduceDIte, reduceCtorEq]
          exact ⟨k + 1, by rw [wi (by omega) (by omega)]; simp, by omega, by omega⟩
      · intro hb1
        have oN := okt_i64 hn
        have oM := okt_i64 hm
        have cc := cmp_okt oN oM
        have cl := cmp_law n m
        refine r_exit ?_
        refine k_seq_exit ?_
        refine k_round_exit ?_
        refine k_block_exit ?_
        refine k_seq ?_
        refine r_seq ?_
        refine r_region hG (by simp only [hT, tab6, cWorks, cOf, cIntT, cCheck, cCmpT, cIs, cAddT, cIsF, cSubT, cMulT, mx0, mx1, mx2, mx3, mx4, mx5, effOp, endCall, callOp, appendOp, sliceLV, Ty.fieldTy, Ty.fieldOf, Nat.reduceLT, Nat.reduceEqDiff, Nat.reduceAdd, Nat.reduceMul, Nat.reduceSub, Nat.reduceLeDiff, Nat.reduceBEq, Nat.reduceBNe, reduceIte, reduceDIte, reduceCtorEq]; rfl) ?_ ?_ -- R11
        · try simp only [and_true, true_and]
          exact ⟨hn, hm, oN.short, oM.short⟩
        refine k_seq ?_
        refine r_seq ?_
        refine r_seq ?_
        refine r_region hG (by simp only [hT, tab6, cWorks, cOf, cIntT, cCheck, cCmpT, cIs, cAddT, cIsF, cSubT, cMulT, mx0, mx1, mx2, mx3, mx4, mx5, effOp, endCall, callOp, appendOp, sliceLV, Ty.fieldTy, Ty.fieldOf, Nat.reduceLT, Nat.reduceEqDiff, Nat.reduceAdd, Nat.reduceMul, Nat.reduceSub, Nat.reduceLeDiff, Nat.reduceBEq, Nat.reduceBNe, reduceIte, reduceDIte, reduceCtorEq]; rfl) ?_ ?_ -- R12
        · try simp only [and_true, true_and]
          (repeat' (first | apply And.intro | intro _)) <;> (try simp only [decide_eq_true_eq, decide_eq_false_iff_not, Bool.not_eq_true', beq_iff_eq, Int.toNat_natCast] at *) <;> first | assumption | omega | trivial | (simp_all; done) | (simp_all; omega)
        refine k_seq ?_
        refine r_cond (by simp only [hT, tab6, mx0, mx1, mx2, mx3, mx4, mx5, effOp, endCall, callOp, appendOp, sliceLV, Ty.fieldTy, Ty.fieldOf, Nat.reduceLT, Nat.reduceEqDiff, Nat.reduceAdd, Nat.reduceMul, Nat.reduceSub, Nat.reduceLeDiff, Nat.reduceBEq, Nat.reduceBNe, reduceIte, reduceDIte, reduceCtorEq]; rfl) ?_ ?_
        · intro hb3
          simp [cc.1, cc.2, cl.1, cl.2.1, cl.2.2.1, cl.2.2.2] at hb3
        · intro hb3
          try simp only [decide_eq_true_eq, decide_eq_false_iff_not, beq_eq_false_iff_ne, bne_eq_false_iff_eq, Bool.not_eq_false', Bool.and_eq_false_imp] at hb3
          refine r_skip ?_
          refine k_seq ?_
          refine r_seq ?_
          refine r_region hG (by simp only [hT, tab6, cWorks, cOf, cIntT, cCheck, cCmpT, cIs, cAddT, cIsF, cSubT, cMulT, mx0, mx1, mx2, mx3, mx4, mx5, effOp, endCall, callOp, appendOp, sliceLV, Ty.fieldTy, Ty.fieldOf, Nat.reduceLT, Nat.reduceEqDiff, Nat.reduceAdd, Nat.reduceMul, Nat.reduceSub, Nat.reduceLeDiff, Nat.reduceBEq, Nat.reduceBNe, reduceIte, reduceDIte, reduceCtorEq]; rfl) ?_ ?_ -- R14
          · trivial
          refine k_seq ?_
          refine r_seq ?_
          refine r_region hG (by simp only [hT, tab6, cWorks, cOf, cIntT, cCheck, cCmpT, cIs, cAddT, cIsF, cSubT, cMulT, mx0, mx1, mx2, mx3, mx4, mx5, effOp, endCall, callOp, appendOp, sliceLV, Ty.fieldTy, Ty.fieldOf, Nat.reduceLT, Nat.reduceEqDiff, Nat.reduceAdd, Nat.reduceMul, Nat.reduceSub, Nat.reduceLeDiff, Nat.reduceBEq, Nat.reduceBNe, reduceIte, reduceDIte, reduceCtorEq]; rfl) ?_ ?_ -- R15
          · try simp only [and_true, true_and]
            obtain ⟨i1, i2, i3⟩ := i32_add ha hb
            simp only [wi32 ha, wi32 hb, i1.w, i2.w, i3.w]
            have ja := i32_i64 ha
            have jb := i32_i64 hb
            have oa := okt_i64 ja
            have ob := okt_i64 jb
            have f1 := back_law ja jb i1
            have f2 := back_law ja jb i2
            have f3 := back_law ja jb i3
            simp [oa.v, ob.v, f1.1, f1.2, f2.1, f2.2, f3.1, f3.2, i1, i2, i3, ja, jb, oa.short, ob.short]
          refine k_seq ?_
          refine r_ret ?_
          refine ⟨[], ?_⟩
          simp only [hT, tab6, mr0, mr1, mr2, Nat.reduceLT, Nat.reduceEqDiff, Nat.reduceAdd, Nat.reduceMul, Nat.reduceSub, Nat.reduceLeDiff, Nat.reduceBEq, Nat.reduceBNe, reduceIte, reduceDIte, reduceCtorEq]
          obtain ⟨i1, i2, i3⟩ := i32_add ha hb
          simp only [wi32 ha, wi32 hb, i1.w, i2.w, i3.w]
          have ja := i32_i64 ha
          have jb := i32_i64 hb
          have oa := okt_i64 ja
          have ob := okt_i64 jb
          have f1 := back_law ja jb i1
          have f2 := back_law ja jb i2
          have f3 := back_law ja jb i3
          simp [oa.v, ob.v, f1.1, f1.2, f2.1, f2.2, f3.1, f3.2, i1, i2, i3, ja, jb, oa.short, ob.short]

end Go.Proofs.YtkgbdpmhdplddaaDoor
end

section
/- The law WholeBack: its row, its card. -/
namespace Go.Proofs.YtkgbdpmhdplddaaDoor.wholeBack
open Go Go.Cm Go.Proofs Go.ChangeShapes Go.WideShapes Go.ChangeAt Go.RowKit Go.Deep Go.Joins
set_option maxRecDepth 100000

theorem own : ownKnob Tryd.prog.godebug = none := by kernel_rfl
theorem rets : Tryd.f6.resultTypes = #[4] := by kernel_rfl
theorem bools : Tryd.prog.underlying 4 = some .bool := by kernel_rfl
def tys : List Ty := [(.int .i64), (.int .i64), (.int .i32), (.int .i32)]
theorem reads : rdAll Tryd.prog tys Tryd.f6.params.toList = true := by kernel_rfl
theorem spec : TrueSpec Rows.wholeBackSpec tys.length := ⟨rfl, fun _ ds h => match ds, h with | [a0, a1, a2, a3], _ => rfl⟩
abbrev vals : Array Value := #[.int .i64 0, .int .i64 0, .int .i32 0, .int .i32 0]
theorem met (os : Os) : laidMet Tryd.prog Rows.wholeBackRow.laid ((lawWorld os).forCall (fun _ _ => 0) ⟨#[], vals, []⟩).memory :=
  laidMet_of_run3 8 (by kernel_rfl) (by kernel_rfl) (by kernel_rfl)
theorem witness (os : Os) {H : Type} (enc : TypeId × Value → H) : ∃ places, DataW.whole enc Tryd.prog ((lawWorld os).forCall (fun _ _ => 0) ⟨#[], vals, []⟩).memory Tryd.f6.params.toList Rows.wholeBackSpec.vars false vals.toList 8 = some ([.lit (.int .i64 0), .lit (.int .i64 0), .lit (.int .i32 0), .lit (.int .i32 0)], [], places) :=
  ⟨[], by kernel_rfl⟩
theorem tabs {W : World} (h : laidMetH Tryd.prog Rows.wholeBackRow.laid W) : Tabs (lawBase W) := by
  have hL : laidMet Tryd.prog Rows.wholeBackRow.laid W := h
  exact fun w hw => pow_tab (laidMet.tail (laidMet.tail hL)) w hw

theorem lifted (os : Os) (started : os.Started) (H : Type) (enc : TypeId × Value → H) (F : Stop.Interp) :
    ReturnsInHanded {} Tryd.checked os 6 .any ((OpenSpec.ofChange Rows.wholeBackSpec).preRow enc Tryd.prog Tryd.f6 Rows.wholeBackRow.domain false Rows.wholeBackRow.laid) (((OpenSpec.ofChange Rows.wholeBackSpec).at F).post enc Tryd.prog Tryd.f6 false true false false) := by
  obtain ⟨places, hx⟩ := witness os enc
  refine returnsInHanded_of_row (C := Tryd.checked) (s := OpenSpec.ofChange Rows.wholeBackSpec) own started (by kernel_rfl) Tryd.func6
    (witness_row_at (enc := enc) (C := Tryd.checked) false (lawWorld os) vals rfl (by kernel_rfl) (by kernel_rfl) (by kernel_rfl)
      (OpenSpec.preRow_of_cond 8 hx (by kernel_rfl) (fun k hk => by cases hk) (by kernel_rfl) (met os))) ?_
  intro W base args ds gs before hval hW _ _ _ hL _ _
  exact row_contract (ts := tys) (con := cBackLaw) reads rets bools spec (fun x h => by obtain ⟨x0, x1, x2, x3, ⟨⟩⟩ := x; obtain ⟨h0, h1, h2, h3, -⟩ := h; exact ⟨_, rfl, ⟨i64_of h0, i64_of h1, i32_of h2, i32_of h3⟩⟩) (valid6 (tabs hL)) hval hW

theorem said : Rows.WholeBackSaid :=
  OpenClaim.holds_of_cond 6 Tryd.f6 rfl rfl rfl rfl rfl rfl rfl ⟨rfl, rfl, rfl, rfl, rfl⟩ rfl rfl rfl rfl rfl (by kernel_rfl) Tryd.func6 (by kernel_rfl)
    (of_decide_eq_true (by kernel_rfl)) (by unfold Func.isWrapper; first | (rw [if_pos (by decide +kernel)]; kernel_rfl) | (rw [if_neg (by decide +kernel)]; exact ⟨rfl, rfl⟩))
    (fun os started H enc _ F => by rw [OpenClaim.pre_eq_preRow]; exact lifted os started H enc F)

theorem plain (f : FuncId) (fn : Func) (hf : Tryd.pinned.checked.prog.funcNamed "croupier/croupierlaw01.WholeBack" = some f) (hfn : Tryd.pinned.checked.prog.funcs[f]? = some fn) :
    true = Tryd.pinned.checked.prog.looks [] ∧ ∀ (j : Nat) t, fn.params[j]? = some t → Tryd.pinned.checked.prog.wantsStandIn t = false := by
  obtain rfl : f = 6 := Option.some.inj ((show Tryd.prog.funcNamed "croupier/croupierlaw01.WholeBack" = some 6 by kernel_rfl).symm.trans hf) |>.symm
  obtain rfl : fn = Tryd.f6 := (Option.some.inj (Tryd.func6.symm.trans hfn)).symm
  refine ⟨by kernel_rfl, fun j t ht => ?_⟩
  have hall : Tryd.f6.params.toList.all (fun t => !Tryd.prog.wantsStandIn t) = true := by kernel_rfl
  have := List.all_eq_true.1 hall t (by simpa using Array.mem_of_getElem? ht)
  exact (by simpa using this : Tryd.prog.wantsStandIn t = false)

theorem card : Rows.WholeBackCardSaid :=
  Claim7.holds_tied_plain_at .later [] _ _ _ _ said (fun _ h => by cases h) (by kernel_rfl) (fun _ h => by cases h) wholeBack_row_tie rfl ⟨rfl, rfl⟩ (by kernel_rfl) rfl plain (by kernel_rfl)

end Go.Proofs.YtkgbdpmhdplddaaDoor.wholeBack
end
