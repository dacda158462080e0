/- GraphKnown: the whole card, with no condition. -/
import Derived.Test.YtcopdikdkkdlfaaDoorQ4
import Derived.Test.YtcopdikdkkdlfaaDoorQ3
import Derived.Test.YtcopdikdkkdlfaaDoorProg
import Derived.Test.YtcopdikdkkdlfaaDoorQ5
import Derived.WalkKit
set_option linter.all false
set_option linter.unusedSimpArgs false
set_option linter.unusedVariables false

section
/- What the laws ask, in plain words. No program is in sight. -/
namespace Go.Cm.Gr
open Go.Cm
theorem shr_fit {m n : Nat} (h : m < 2 ^ n) (hn : n ≤ 32) : ((m : Int)).fdiv (2 ^ (min ((n : Int)).toNat IntKind.u64.bits)) = 0 := by
  rw [Int.toNat_natCast, shr64 (by omega), shr_zero.2 h]; rfl
theorem one_raw {v : Nat} (hv : v < 32) : IntKind.u64.wrap (1 * 2 ^ (min ((v : Int)).toNat IntKind.u64.bits)) = ((1 <<< v : Nat) : Int) := by
  rw [Int.toNat_natCast, shl1 (by omega)]
theorem one_ok {g : Gph} (hg : Val g) {v : Nat} (hv : v < g.length) : U64 (IntKind.u64.wrap (1 * 2 ^ (min ((v : Int)).toNat IntKind.u64.bits))) ∧ (IntKind.u64.wrap (1 * 2 ^ (min ((v : Int)).toNat IntKind.u64.bits))).toNat < 2 ^ g.length := by
  have := hg.most
  rw [one_raw (by omega), Int.toNat_natCast]
  exact ⟨u64_nat (one_lt32 (by omega)), one_lt hv⟩
theorem bit_is {m v : Nat} (hm : m < 2 ^ 64) (hv : v ≤ 64) : IntKind.u64.wrap ((BitVec.ofInt IntKind.u64.bits (((m : Int)).fdiv (2 ^ (min ((v : Int)).toNat IntKind.u64.bits))) &&& BitVec.ofInt IntKind.u64.bits 1).toNat : Int) = if m.testBit v = true then 1 else 0 := by
  rw [Int.toNat_natCast]; exact bit64 hm hv
theorem bit_eq1 {m v : Nat} (hm : m < 2 ^ 64) (hv : v ≤ 64) : (IntKind.u64.wrap ((BitVec.ofInt IntKind.u64.bits (((m : Int)).fdiv (2 ^ (min ((v : Int)).toNat IntKind.u64.bits))) &&& BitVec.ofInt IntKind.u64.bits 1).toNat : Int) == 1) = m.testBit v := by
  rw [bit_is hm hv]; cases m.testBit v <;> rfl
theorem bit_eq0 {m v : Nat} (hm : m < 2 ^ 64) (hv : v ≤ 64) : (IntKind.u64.wrap ((BitVec.ofInt IntKind.u64.bits (((m : Int)).fdiv (2 ^ (min ((v : Int)).toNat IntKind.u64.bits))) &&& BitVec.ofInt IntKind.u64.bits 1).toNat : Int) == 0) = !m.testBit v := by
  rw [bit_is hm hv]; cases m.testBit v <;> rfl
theorem back_lt {g : Gph} (s : Nat) : back g s < 2 ^ g.length := mask_lt _ _
theorem lt64 {g : Gph} (hg : Val g) {s : Nat} (hs : s < 2 ^ g.length) : s < 2 ^ 64 := Nat.lt_trans (lt32 hg hs) (by decide)
theorem turn_eq {g : Gph} (hg : Val g) {s v : Nat} (hs : s < 2 ^ g.length) (hv : v < g.length) : (IntKind.u64.wrap ((BitVec.ofInt IntKind.u64.bits (reach g (IntKind.u64.wrap (1 * 2 ^ (min ((v : Int)).toNat IntKind.u64.bits))).toNat : Int) &&& BitVec.ofInt IntKind.u64.bits (s : Int)).toNat : Int) != 0) = (IntKind.u64.wrap ((BitVec.ofInt IntKind.u64.bits (((back g s : Nat) : Int).fdiv (2 ^ (min ((v : Int)).toNat IntKind.u64.bits))) &&& BitVec.ofInt IntKind.u64.bits 1).toNat : Int) == 1) := by
  have := hg.most
  rw [bit_eq1 (lt64 hg (back_lt s)) (by omega), one_raw (by omega), Int.toNat_natCast]
  have h := hits_iff hg (u64_nat (lt32 hg hs)) hv
  rw [Int.toNat_natCast] at h
  have hb : (back g s).testBit v = hits g s v := by
    rw [← back_mask, mask_bit]; simp [hv]
  rw [hb]
  cases hh : hits g s v with
  | false => rw [h.2 hh]; rfl
  | true =>
    rw [bne_iff_ne]
    intro e
    rw [h.1 e] at hh; cases hh
end Go.Cm.Gr
end

section
/- GraphKnown in plain words: a ring and a line of 32 nodes. No program is in sight. -/
namespace Go.Cm.Gr
open Go.Cm
def ringK (k : Nat) : Gph := (List.range 32).map fun v => if v < k then [(((v + 1) % 32 : Nat) : Int)] else []
def lineK (k : Nat) : Gph := (List.range 32).map fun v => if v < k then [((v + 1 : Nat) : Int)] else []
theorem ring_zero : ringK 0 = List.replicate 32 [] := by decide +kernel
theorem line_zero : lineK 0 = List.replicate 32 [] := by decide +kernel
theorem set_map {n k : Nat} {f h : Nat → List Int} {x : List Int} (hk : k < n) (e : ∀ v, v < n → h v = if v = k then x else f v) : ((List.range n).map f).set k x = (List.range n).map h := by
  refine List.ext_getElem (by simp) fun i h1 h2 => ?_
  have hi : i < n := by simpa using h2
  rw [List.getElem_set]
  simp only [List.getElem_map, List.getElem_range]
  rw [e i hi]
  by_cases hik : k = i
  · subst hik; simp
  · rw [if_neg hik, if_neg (fun h => hik h.symm)]
theorem ring_succ {k : Nat} (hk : k < 32) : (ringK k).set k [(((k + 1) % 32 : Nat) : Int)] = ringK (k + 1) := by
  refine set_map hk fun v _ => ?_
  by_cases h : v = k
  · subst h; simp
  · rw [if_neg h]
    by_cases h2 : v < k
    · rw [if_pos h2, if_pos (by omega)]
    · rw [if_neg h2, if_neg (by omega)]
theorem line_succ {k : Nat} (hk : k < 32) : (lineK k).set k [((k + 1 : Nat) : Int)] = lineK (k + 1) := by
  refine set_map hk fun v _ => ?_
  by_cases h : v = k
  · subst h; simp
  · rw [if_neg h]
    by_cases h2 : v < k
    · rw [if_pos h2, if_pos (by omega)]
    · rw [if_neg h2, if_neg (by omega)]
theorem ring_len (k : Nat) : (ringK k).length = 32 := by simp [ringK]
theorem line_len (k : Nat) : (lineK k).length = 32 := by simp [lineK]
def ringG : Gph := ringK 32
def lineG : Gph := lineK 31
theorem ring_val : Val ringG := okG_iff.1 (by decide +kernel)
theorem line_val : Val lineG := okG_iff.1 (by decide +kernel)
theorem ring_rd : rdE ringG [] = 0 := by decide +kernel
theorem line_rd : rdE lineG [] = 0 := by decide +kernel
theorem line_rd1 : rdE lineG [1] = 0 := by decide +kernel
theorem ring_rd2 : rdE ringG [4294967296] = 2 := by decide +kernel
theorem ring_out : (tall ringG ringG.length).out = [4294967295] := by decide +kernel
theorem ring_parts : partsG ringG = [4294967295] := by
  rw [← sort_parts ring_val, ring_out]; simp [sortI]
theorem ring_bot : botG ringG = [4294967295] := by
  unfold botG
  rw [ring_parts]
  have : isBot ringG 4294967295 = true := by decide +kernel
  rw [List.filter_cons, this]; rfl
theorem line_ord : ordV lineG = (List.range 32).map Int.ofNat ∧ ordE lineG = 0 := by decide +kernel
theorem line_far : far lineG 1 = (List.range 32).map Int.ofNat := by decide +kernel
def lineL : List Int := (List.range 32).map Int.ofNat
theorem f_parts : (if rdE ringG [] = 0 then partsG ringG else []) = [4294967295] := by rw [if_pos ring_rd, ring_parts]
theorem f_bot : (if rdE ringG [] = 0 then botG ringG else []) = [4294967295] := by rw [if_pos ring_rd, ring_bot]
theorem f_far : (if rdE lineG [1] = 0 then far lineG (Int.toNat 1) else []) = lineL := by rw [if_pos line_rd1]; exact line_far
theorem f_ord : (if rdE lineG [] = 0 then ordV lineG else []) = lineL := by rw [if_pos line_rd]; exact line_ord.1
theorem next_ring {k : Nat} (h : k < 32) : (IntKind.i64.wrap ((k : Int) + 1)).tmod 32 = (((k + 1) % 32 : Nat) : Int) := by
  rw [wi (by omega) (by omega), Int.tmod_eq_emod_of_nonneg (by omega)]
  omega
theorem line_next {k : Nat} (h : k < 32) : (lineK k).set k [IntKind.i64.wrap ((k : Int) + 1)] = lineK (k + 1) := by
  rw [wi (by omega) (by omega)]; exact line_succ h
end Go.Cm.Gr
end

section
/- The functions of the package graph, one after the other: each meets its contract. -/
set_option linter.unusedSimpArgs false
set_option linter.unusedVariables false
set_option maxRecDepth 100000
namespace Go.Proofs.YtcopdikdkkdlfaaDoor
open Go Go.Cm Go.Cm.Gr Go.Proofs

def tab4 (B : Base) : Tab := { types := [(3, (.int .i64)), (27, (.slice (.slice (.int .i64)))), (30, (.int .u64)), (32, (.int .i64)), (36, (.slice (.int .i64))), (37, (.slice (.int .u64)))], elems := [(27, 36), (36, 3), (37, 30)], cons := [(10, cWorks), (13, cBack), (15, cParts), (16, cBottom), (17, cFar), (18, cOrder), (19, cEqU), (20, cCheck)], hint := [], N := 187, base := B }
theorem good4 {B : Base} (hB : Tabs B) : MGood Tryd.prog (tab4 B) := ⟨⟨types_cons ty3 (types_cons ty27 (types_cons ty30 (types_cons ty32 (types_cons ty36 (types_cons ty37 (types_nil)))))), elems_cons (by kernel_rfl) (elems_cons (by kernel_rfl) (elems_cons (by kernel_rfl) (elems_nil))), by simp only [tab4, ioB]; omega⟩, cons_ok (cals_cons (cal_ok Tryd.func10 (by kernel_rfl) rfl (valid10 hB)) (cals_cons (cal_ok Tryd.func13 (by kernel_rfl) rfl (valid13 hB)) (cals_cons (cal_ok Tryd.func15 (by kernel_rfl) rfl (valid15 hB)) (cals_cons (cal_ok Tryd.func16 (by kernel_rfl) rfl (valid16 hB)) (cals_cons (cal_ok Tryd.func17 (by kernel_rfl) rfl (valid17 hB)) (cals_cons (cal_ok Tryd.func18 (by kernel_rfl) rfl (valid18 hB)) (cals_cons (cal_ok Tryd.func19 (by kernel_rfl) rfl (valid19 hB)) (cals_cons (cal_ok Tryd.func20 (by kernel_rfl) rfl (valid20 hB)) (cals_nil))))))))), by kernel_rfl⟩
def cKnown : Con := fun l os => match l, os with
  | [], [] => some (True, [.z .bool true], [])
  | _, _ => none

set_option maxHeartbeats 2000000 in
theorem valid4 {B : Base} (hB : Tabs B) : Valid B Tryd.prog 4 cKnown := by
  refine valid_of_J (T := tab4 B) (good4 hB).tab Tryd.func4 rfl rfl rfl ?_
  intro args os C rs os' hc hC
  unfold cKnown at hc
  split at hc
  case h_2 => cases hc
  cases hc
  refine ⟨by simp only [List.length_cons, List.length_nil, tab4]; omega, rfl, ?_⟩
  intro X hP hT hr
  have hG : MGood X.P X.T := by rw [hP, hT]; exact good4 hB
  unfold tab4 at hT
  have hX := And.intro (@cBack.eq_1) <| And.intro (@cBottom.eq_1) <| And.intro (@cCheck.eq_1) <| And.intro (@cEqU.eq_1) <| And.intro (@cFar.eq_1) <| And.intro (@cOrder.eq_1) <| And.intro (@cParts.eq_1) <| @cWorks.eq_1
  simp only [Tryd.f4, argEnv, ioList, ioB]
  refine r_seq ?_
  refine q_region hG ?_ ?_ -- R0
  · first | trivial | omega | (simp; done) | (simp; omega)
  refine k_seq ?_
  refine r_seq ?_
  refine r_seq ?_
  refine q_region hG ?_ ?_ -- R1
  · first | trivial | omega | (simp; done) | (simp; omega)
  refine k_seq ?_
  refine q_cond ?_ ?_
  · intro hb0
    cases hb0
  · intro hb0
    try simp only [decide_eq_true_eq, decide_eq_false_iff_not, beq_eq_false_iff_ne, bne_eq_false_iff_eq, Bool.not_eq_false', Bool.and_eq_false_imp] at hb0
    try simp only [nth_gi, nth_row] at hb0
    refine r_skip ?_
    refine k_seq ?_
    refine r_seq ?_
    refine q_region hG ?_ ?_ -- R3
    · try simp only [and_true, true_and]
      exact ⟨by decide, by decide, roomy1 (by decide)⟩
    refine k_seq ?_
    refine r_seq ?_
    refine r_seq ?_
    refine r_region hG (by simp only [lenLV.eq_def, hT, tab4, cBack, cBottom, cCheck, cEqU, cFar, cOrder, cParts, cWorks, mx0, mx1, mx2, mx3, mx4, mx5, mx6, effOp, endCall, callOp, appendOp, sliceLV, Ty.fieldTy, Ty.fieldOf, Nat.reduceLT, Nat.reduceEqDiff, Nat.reduceAdd, Nat.reduceMul, Nat.reduceSub, Nat.reduceLeDiff, Nat.reduceBEq, Nat.reduceBNe, reduceIte, reduceDIte, reduceCtorEq]; rfl) ?_ ?_ -- R4
    · first | trivial | omega | (simp; done) | (simp; omega)
    refine k_seq ?_
    refine j_block ?_
    refine j_loop (fun (z : Nat) => (⟨[(0, .l (.z .bool false)), (1, .l (.ownS 24)), (26, .l (.z (.int .i64) 32)), (27, .l (.z (.int .i64) (z : Int)))], [(24, .arr (.slice (.int .i64)) 36 (ringK z))]⟩ : AState)) (fun z => z ≤ 32) (fun z => 32 - z) 0 ?_ ?_ ?_
    · simp only [ml0, ml1, Nat.reduceLT, Nat.reduceEqDiff, Nat.reduceAdd, Nat.reduceMul, Nat.reduceSub, Nat.reduceLeDiff, Nat.reduceBEq, Nat.reduceBNe, reduceIte, reduceDIte, reduceCtorEq]
      exact ⟨rfl, rfl, ring_zero.symm⟩
    · omega
    · rintro k g1
      try dsimp only at g1
      refine r_seq ?_
      refine q_region hG ?_ ?_ -- R5
      · first | trivial | omega | (simp; done) | (simp; omega)
      refine k_seq ?_
      refine r_seq ?_
      refine q_cond ?_ ?_
      · intro hb1
        try simp only [decide_eq_true_eq, decide_eq_false_iff_not, beq_iff_eq, bne_iff_ne, Bool.not_eq_true', Bool.and_eq_true] at hb1
        try simp only [nth_gi, nth_row] at hb1
        refine r_skip ?_
        refine k_seq ?_
        refine r_seq ?_
        refine j_block ?_
        refine r_seq ?_
        refine q_region hG ?_ ?_ -- R6
        · first | trivial | omega | (simp; done) | (simp; omega)
        refine k_seq ?_
        refine q_region hG ?_ ?_ -- R7
        · try simp only [and_true, true_and]
          rw [ring_len]
          omega
        refine k_block ?_
        refine k_seq ?_
        refine q_region hG ?_ ?_ -- R8
        · first | trivial | omega | (simp; done) | (simp; omega)
        show ∃ z, _
        simp only [ml0, ml1, Nat.reduceLT, Nat.reduceEqDiff, Nat.reduceAdd, Nat.reduceMul, Nat.reduceSub, Nat.reduceLeDiff, Nat.reduceBEq, Nat.reduceBNe, reduceIte, reduceDIte, reduceCtorEq]
        exact ⟨k + 1, by rw [wi (by omega) (by omega)]; simp, by rw [Int.toNat_natCast, next_ring (by omega), ring_succ (by omega)], by omega, by omega⟩
      · intro hb1
        try simp only [decide_eq_true_eq, decide_eq_false_iff_not, beq_eq_false_iff_ne, bne_eq_false_iff_eq, Bool.not_eq_false', Bool.and_eq_false_imp] at hb1
        try simp only [nth_gi, nth_row] at hb1
        refine r_exit ?_
        refine k_seq_exit ?_
        refine k_round_exit ?_
        refine k_block_exit ?_
        refine k_seq ?_
        refine r_seq ?_
        refine q_region hG ?_ ?_ -- R9
        · try simp only [and_true, true_and]
          exact ⟨by decide, by decide, roomy1 (by decide)⟩
        refine k_seq ?_
        refine r_seq ?_
        refine r_seq ?_
        refine q_region hG ?_ ?_ -- R10
        · first | trivial | omega | (simp; done) | (simp; omega)
        refine k_seq ?_
        refine j_block ?_
        refine j_loop (fun (z : Nat) => (⟨[(0, .l (.z .bool false)), (1, .l (.ownS 24)), (3, .l (.ownS 38)), (39, .l (.z (.int .i64) (z : Int)))], [(24, .arr (.slice (.int .i64)) 36 ringG), (38, .arr (.slice (.int .i64)) 36 (lineK z))]⟩ : AState)) (fun z => z ≤ 31) (fun z => 31 - z) 0 ?_ ?_ ?_
        · simp only [ml0, ml1, Nat.reduceLT, Nat.reduceEqDiff, Nat.reduceAdd, Nat.reduceMul, Nat.reduceSub, Nat.reduceLeDiff, Nat.reduceBEq, Nat.reduceBNe, reduceIte, reduceDIte, reduceCtorEq]
          exact ⟨rfl, by rw [show k = 32 by omega]; rfl, line_zero.symm⟩
        · omega
        · rintro j g2
          try dsimp only at g2
          refine r_seq ?_
          refine q_region hG ?_ ?_ -- R11
          · first | trivial | omega | (simp; done) | (simp; omega)
          refine k_seq ?_
          refine r_seq ?_
          refine q_cond ?_ ?_
          · intro hb2
            try simp only [decide_eq_true_eq, decide_eq_false_iff_not, beq_iff_eq, bne_iff_ne, Bool.not_eq_true', Bool.and_eq_true] at hb2
            try simp only [nth_gi, nth_row] at hb2
            refine r_skip ?_
            refine k_seq ?_
            refine r_seq ?_
            refine j_block ?_
            refine r_seq ?_
            refine q_region hG ?_ ?_ -- R12
            · first | trivial | omega | (simp; done) | (simp; omega)
            refine k_seq ?_
            refine q_region hG ?_ ?_ -- R13
            · try simp only [and_true, true_and]
              rw [line_len]
              omega
            refine k_block ?_
            refine k_seq ?_
            refine q_region hG ?_ ?_ -- R14
            · first | trivial | omega | (simp; done) | (simp; omega)
            show ∃ z, _
            simp only [ml0, ml1, Nat.reduceLT, Nat.reduceEqDiff, Nat.reduceAdd, Nat.reduceMul, Nat.reduceSub, Nat.reduceLeDiff, Nat.reduceBEq, Nat.reduceBNe, reduceIte, reduceDIte, reduceCtorEq]
            exact ⟨j + 1, by rw [wi (by omega) (by omega)]; simp, by rw [Int.toNat_natCast, line_next (by omega)], by omega, by omega⟩
          · intro hb2
            try simp only [decide_eq_true_eq, decide_eq_false_iff_not, beq_eq_false_iff_ne, bne_eq_false_iff_eq, Bool.not_eq_false', Bool.and_eq_false_imp] at hb2
            try simp only [nth_gi, nth_row] at hb2
            refine r_exit ?_
            refine k_seq_exit ?_
            refine k_round_exit ?_
            refine k_block_exit ?_
            refine k_seq ?_
            refine r_seq ?_
            refine q_region hG ?_ ?_ -- R15
            · try simp only [and_true, true_and]
              exact val_lens ring_val
            refine k_seq ?_
            refine r_seq ?_
            refine q_region hG ?_ ?_ -- R16
            · try simp only [and_true, true_and]
              exact val_lens ring_val
            refine k_seq ?_
            refine r_seq ?_
            obtain rfl : j = 31 := by omega
            rw [show lineK 31 = lineG from rfl]
            refine q_region hG ?_ ?_ -- R17
            · try simp only [and_true, true_and]
              exact ⟨(val_lens line_val).1, (val_lens line_val).2, by decide, by decide⟩
            refine k_seq ?_
            refine r_seq ?_
            refine q_region hG ?_ ?_ -- R18
            · try simp only [and_true, true_and]
              exact val_lens line_val
            refine k_seq ?_
            refine r_seq ?_
            refine q_region hG ?_ ?_ -- R19
            · try simp only [and_true, true_and]
              exact ⟨(val_lens ring_val).1, (val_lens ring_val).2, by decide, by decide⟩
            refine k_seq ?_
            refine r_seq ?_
            refine q_region hG ?_ ?_ -- R20
            · try simp only [and_true, true_and]
              exact ⟨by decide, by decide, by decide⟩
            refine k_seq ?_
            refine r_seq ?_
            refine q_region hG ?_ ?_ -- R21
            · try simp only [and_true, true_and]
              decide
            refine k_seq ?_
            refine r_seq ?_
            refine q_region hG ?_ ?_ -- R22
            · try simp only [and_true, true_and]
              decide
            refine k_seq ?_
            refine r_seq ?_
            simp only [f_parts, f_bot, f_far, f_ord]
            refine q_region hG ?_ ?_ -- R23
            · try simp only [and_true, true_and]
              simp only [mx0, mx1, mx2, mx3, mx4, mx5, mx6, effOp, endCall, callOp, appendOp, sliceLV, Ty.fieldTy, Ty.fieldOf, Nat.reduceLT, Nat.reduceEqDiff, Nat.reduceAdd, Nat.reduceMul, Nat.reduceSub, Nat.reduceLeDiff, Nat.reduceBEq, Nat.reduceBNe, reduceIte, reduceDIte, reduceCtorEq]
              (repeat' (first | apply And.intro | intro _)) <;> first | assumption | omega | (rename_i h; rw [h]; rfl) | (rename_i h1 h2; rw [h1, h2]; rfl) | (decide +kernel)
            refine k_seq ?_
            refine r_seq ?_
            refine q_region hG ?_ ?_ -- R24
            · try simp only [and_true, true_and]
              unfold Cm.Roomy
              decide +kernel
            refine k_seq ?_
            refine r_ret ?_
            refine ⟨[], ?_⟩
            simp only [hT, tab4, mr0, mr1, mr2, isNilP, Nat.reduceLT, Nat.reduceEqDiff, Nat.reduceAdd, Nat.reduceMul, Nat.reduceSub, Nat.reduceLeDiff, Nat.reduceBEq, Nat.reduceBNe, reduceIte, reduceDIte, reduceCtorEq]
            decide +kernel

end Go.Proofs.YtcopdikdkkdlfaaDoor
end

section
/- The law GraphKnown: its row, its card. -/
namespace Go.Proofs.YtcopdikdkkdlfaaDoor.graphKnown
open Go Go.Cm Go.Cm.Gr Go.Proofs Go.ChangeShapes Go.WideShapes Go.ChangeAt Go.RowKit Go.Deep Go.Joins
set_option maxRecDepth 100000

theorem own : ownKnob Tryd.prog.godebug = none := by kernel_rfl
theorem rets : Tryd.f4.resultTypes = #[4] := by kernel_rfl
theorem bools : Tryd.prog.underlying 4 = some .bool := by kernel_rfl
def tys : List Ty := []
theorem reads : rdAll Tryd.prog tys Tryd.f4.params.toList = true := by kernel_rfl
theorem spec : TrueSpec Rows.graphKnownSpec tys.length := ⟨rfl, fun _ ds h => match ds, h with | [], _ => rfl⟩
abbrev vals : Array Value := #[]
theorem met (os : Os) : laidMet Tryd.prog Rows.graphKnownRow.laid ((lawWorld os).forCall (fun _ _ => 0) ⟨#[], vals, []⟩).memory :=
  laidMet_of_run3 8 (by kernel_rfl) (by kernel_rfl) (by kernel_rfl)
theorem witness (os : Os) {H : Type} (enc : TypeId × Value → H) : ∃ places, DataW.whole enc Tryd.prog ((lawWorld os).forCall (fun _ _ => 0) ⟨#[], vals, []⟩).memory Tryd.f4.params.toList Rows.graphKnownSpec.vars false vals.toList 8 = some ([], [], places) :=
  ⟨[], by kernel_rfl⟩
theorem tabs {W : World} (h : laidMetH Tryd.prog Rows.graphKnownRow.laid W) : Tabs (lawBase W) := by
  have hL : laidMet Tryd.prog Rows.graphKnownRow.laid W := h
  exact fun w hw => ctz_tab hL w hw

theorem lifted (os : Os) (started : os.Started) (H : Type) (enc : TypeId × Value → H) (F : Stop.Interp) :
    ReturnsInHanded {} Tryd.checked os 4 .any ((OpenSpec.ofChange Rows.graphKnownSpec).preRow enc Tryd.prog Tryd.f4 Rows.graphKnownRow.domain false Rows.graphKnownRow.laid) (((OpenSpec.ofChange Rows.graphKnownSpec).at F).post enc Tryd.prog Tryd.f4 false true false false) := by
  obtain ⟨places, hx⟩ := witness os enc
  refine returnsInHanded_of_row (C := Tryd.checked) (s := OpenSpec.ofChange Rows.graphKnownSpec) own started (by kernel_rfl) Tryd.func4
    (witness_row_at (enc := enc) (C := Tryd.checked) false (lawWorld os) vals rfl (by kernel_rfl) (by kernel_rfl) (by kernel_rfl)
      (OpenSpec.preRow_of_cond 8 hx (by kernel_rfl) (fun k hk => by cases hk) (by kernel_rfl) (met os))) ?_
  intro W base args ds gs before hval hW _ _ _ hL _ _
  exact row_contract (ts := tys) (con := cKnown) reads rets bools spec (fun x h => by obtain ⟨⟨⟩⟩ := x; obtain ⟨-⟩ := h; exact ⟨_, rfl, trivial⟩) (valid4 (tabs hL)) hval hW

theorem said : Rows.GraphKnownSaid :=
  OpenClaim.holds_of_cond 4 Tryd.f4 rfl rfl rfl rfl rfl rfl rfl ⟨rfl, rfl, rfl, rfl, rfl⟩ rfl rfl rfl rfl rfl (by kernel_rfl) Tryd.func4 (by kernel_rfl)
    (of_decide_eq_true (by kernel_rfl)) (by unfold Func.isWrapper; first | (rw [if_pos (by decide +kernel)]; kernel_rfl) | (rw [if_neg (by decide +kernel)]; exact ⟨rfl, rfl⟩))
    (fun os started H enc _ F => by rw [OpenClaim.pre_eq_preRow]; exact lifted os started H enc F)

theorem plain (f : FuncId) (fn : Func) (hf : Tryd.pinned.checked.prog.funcNamed "croupier/croupierlaw08.GraphKnown" = some f) (hfn : Tryd.pinned.checked.prog.funcs[f]? = some fn) :
    false = Tryd.pinned.checked.prog.looks [] ∧ ∀ (j : Nat) t, fn.params[j]? = some t → Tryd.pinned.checked.prog.wantsStandIn t = false := by
  obtain rfl : f = 4 := Option.some.inj ((show Tryd.prog.funcNamed "croupier/croupierlaw08.GraphKnown" = some 4 by kernel_rfl).symm.trans hf) |>.symm
  obtain rfl : fn = Tryd.f4 := (Option.some.inj (Tryd.func4.symm.trans hfn)).symm
  refine ⟨by kernel_rfl, fun j t ht => ?_⟩
  have hall : Tryd.f4.params.toList.all (fun t => !Tryd.prog.wantsStandIn t) = true := by kernel_rfl
  have := List.all_eq_true.1 hall t (by simpa using Array.mem_of_getElem? ht)
  exact (by simpa using this : Tryd.prog.wantsStandIn t = false)

theorem card : Rows.GraphKnownCardSaid :=
  Claim7.holds_tied_plain_at .later [] _ _ _ _ said (fun _ h => by cases h) (by kernel_rfl) (fun _ h => by cases h) graphKnown_row_tie rfl ⟨rfl, rfl⟩ (by kernel_rfl) rfl plain (by kernel_rfl)

end Go.Proofs.YtcopdikdkkdlfaaDoor.graphKnown
end
