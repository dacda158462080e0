/- GraphTurns: the whole card, with no condition. -/
import Derived.Test.YtcopdikdkkdlfaaDoorQ4
import Derived.Test.YtcopdikdkkdlfaaDoorQ3
import Derived.Test.YtcopdikdkkdlfaaDoorProg
import Derived.Test.YtcopdikdkkdlfaaDoorQ5
import Derived.WalkKit
set_option linter.all false
set_option linter.unusedSimpArgs false
set_option linter.unusedVariables false

section
/- What the laws ask, in plain words. No program is in sight. -/
namespace Go.Cm.Gr
open Go.Cm
theorem shr_fit {m n : Nat} (h : m < 2 ^ n) (hn : n ≤ 32) : ((m : Int)).fdiv (2 ^ (min ((n : Int)).toNat IntKind.u64.bits)) = 0 := by
  rw [Int.toNat_natCast, shr64 (by omega), shr_zero.2 h]; rfl
theorem one_raw {v : Nat} (hv : v < 32) : IntKind.u64.wrap (1 * 2 ^ (min ((v : Int)).toNat IntKind.u64.bits)) = ((1 <<< v : Nat) : Int) := by
  rw [Int.toNat_natCast, shl1 (by omega)]
theorem one_ok {g : Gph} (hg : Val g) {v : Nat} (hv : v < g.length) : U64 (IntKind.u64.wrap (1 * 2 ^ (min ((v : Int)).toNat IntKind.u64.bits))) ∧ (IntKind.u64.wrap (1 * 2 ^ (min ((v : Int)).toNat IntKind.u64.bits))).toNat < 2 ^ g.length := by
  have := hg.most
  rw [one_raw (by omega), Int.toNat_natCast]
  exact ⟨u64_nat (one_lt32 (by omega)), one_lt hv⟩
theorem bit_is {m v : Nat} (hm : m < 2 ^ 64) (hv : v ≤ 64) : IntKind.u64.wrap ((BitVec.ofInt IntKind.u64.bits (((m : Int)).fdiv (2 ^ (min ((v : Int)).toNat IntKind.u64.bits))) &&& BitVec.ofInt IntKind.u64.bits 1).toNat : Int) = if m.testBit v = true then 1 else 0 := by
  rw [Int.toNat_natCast]; exact bit64 hm hv
theorem bit_eq1 {m v : Nat} (hm : m < 2 ^ 64) (hv : v ≤ 64) : (IntKind.u64.wrap ((BitVec.ofInt IntKind.u64.bits (((m : Int)).fdiv (2 ^ (min ((v : Int)).toNat IntKind.u64.bits))) &&& BitVec.ofInt IntKind.u64.bits 1).toNat : Int) == 1) = m.testBit v := by
  rw [bit_is hm hv]; cases m.testBit v <;> rfl
theorem bit_eq0 {m v : Nat} (hm : m < 2 ^ 64) (hv : v ≤ 64) : (IntKind.u64.wrap ((BitVec.ofInt IntKind.u64.bits (((m : Int)).fdiv (2 ^ (min ((v : Int)).toNat IntKind.u64.bits))) &&& BitVec.ofInt IntKind.u64.bits 1).toNat : Int) == 0) = !m.testBit v := by
  rw [bit_is hm hv]; cases m.testBit v <;> rfl
theorem back_lt {g : Gph} (s : Nat) : back g s < 2 ^ g.length := mask_lt _ _
theorem lt64 {g : Gph} (hg : Val g) {s : Nat} (hs : s < 2 ^ g.length) : s < 2 ^ 64 := Nat.lt_trans (lt32 hg hs) (by decide)
theorem turn_eq {g : Gph} (hg : Val g) {s v : Nat} (hs : s < 2 ^ g.length) (hv : v < g.length) : (IntKind.u64.wrap ((BitVec.ofInt IntKind.u64.bits (reach g (IntKind.u64.wrap (1 * 2 ^ (min ((v : Int)).toNat IntKind.u64.bits))).toNat : Int) &&& BitVec.ofInt IntKind.u64.bits (s : Int)).toNat : Int) != 0) = (IntKind.u64.wrap ((BitVec.ofInt IntKind.u64.bits (((back g s : Nat) : Int).fdiv (2 ^ (min ((v : Int)).toNat IntKind.u64.bits))) &&& BitVec.ofInt IntKind.u64.bits 1).toNat : Int) == 1) := by
  have := hg.most
  rw [bit_eq1 (lt64 hg (back_lt s)) (by omega), one_raw (by omega), Int.toNat_natCast]
  have h := hits_iff hg (u64_nat (lt32 hg hs)) hv
  rw [Int.toNat_natCast] at h
  have hb : (back g s).testBit v = hits g s v := by
    rw [← back_mask, mask_bit]; simp [hv]
  rw [hb]
  cases hh : hits g s v with
  | false => rw [h.2 hh]; rfl
  | true =>
    rw [bne_iff_ne]
    intro e
    rw [h.1 e] at hh; cases hh
end Go.Cm.Gr
end

section
/- The functions of the package graph, one after the other: each meets its contract. -/
set_option linter.unusedSimpArgs false
set_option linter.unusedVariables false
set_option maxRecDepth 100000
namespace Go.Proofs.YtcopdikdkkdlfaaDoor
open Go Go.Cm Go.Cm.Gr Go.Proofs

def tab3 (B : Base) : Tab := { types := [(3, (.int .i64)), (4, .bool), (24, (.st (.pair (.int .u8) (.pair (.slice (.arr 2 (.int .u8))) .bool)))), (25, (.int .u16)), (27, (.slice (.slice (.int .i64)))), (30, (.int .u64)), (32, (.int .i64))], elems := [], cons := [(10, cWorks), (11, cDraft), (12, cSome), (13, cBackV), (14, cReachV)], hint := [], N := 61, base := B }
theorem good3 {B : Base} (hB : Tabs B) : MGood Tryd.prog (tab3 B) := ⟨⟨types_cons ty3 (types_cons ty4 (types_cons ty24 (types_cons ty25 (types_cons ty27 (types_cons ty30 (types_cons ty32 (types_nil))))))), elems_nil, by simp only [tab3, ioB]; omega⟩, cons_ok (cals_cons (cal_ok Tryd.func10 (by kernel_rfl) rfl (valid10 hB)) (cals_cons (cal_ok Tryd.func11 (by kernel_rfl) rfl (valid11 hB)) (cals_cons (cal_ok Tryd.func12 (by kernel_rfl) rfl (valid12 hB)) (cals_cons (cal_ok Tryd.func13 (by kernel_rfl) rfl (valid13v hB)) (cals_cons (cal_ok Tryd.func14 (by kernel_rfl) rfl (valid14v hB)) (cals_nil)))))), by kernel_rfl⟩
def cTurns : Con := fun l os => match l, os with
  | [.z (.st (.pair (.int .u8) (.pair (.slice (.arr 2 (.int .u8))) .bool))) d, .z (.int .u16) x], [] => some (Dok d ∧ 0 ≤ x ∧ x < 65536, [.z .bool true], [])
  | _, _ => none

theorem valid3 {B : Base} (hB : Tabs B) : Valid B Tryd.prog 3 cTurns := by
  refine valid_of_J (T := tab3 B) (good3 hB).tab Tryd.func3 rfl rfl rfl ?_
  intro args os C rs os' hc hC
  unfold cTurns at hc
  split at hc
  case h_2 => cases hc
  rename_i d x
  cases hc
  refine ⟨by simp only [List.length_cons, List.length_nil, tab3]; omega, rfl, ?_⟩
  intro X hP hT hr
  have hG : MGood X.P X.T := by rw [hP, hT]; exact good3 hB
  unfold tab3 at hT
  have hX := And.intro (@cBackV.eq_1) <| And.intro (@cDraft.eq_1) <| And.intro (@cReachV.eq_1) <| And.intro (@cSome.eq_1) <| @cWorks.eq_1
  simp only [Tryd.f3, argEnv, ioList, ioB]
  refine r_seq ?_
  obtain ⟨hd, hx0, hx1⟩ := hC
  have hv := draft_val d
  have n1 := hv.one
  have n2 := hv.most
  have hs := someV_lt (gD d) x
  have hs32 := lt32 hv hs
  refine q_region hG ?_ ?_ -- R0
  · first | trivial | omega | (simp; done) | (simp; omega)
  refine k_seq ?_
  refine r_seq ?_
  refine r_seq ?_
  refine q_region hG ?_ ?_ -- R1
  · first | trivial | omega | (simp; done) | (simp; omega)
  refine k_seq ?_
  refine q_cond ?_ ?_
  · intro hb0
    cases hb0
  · intro hb0
    try simp only [decide_eq_true_eq, decide_eq_false_iff_not, beq_eq_false_iff_ne, bne_eq_false_iff_eq, Bool.not_eq_false', Bool.and_eq_false_imp] at hb0
    try simp only [nth_gi, nth_row] at hb0
    refine r_skip ?_
    refine k_seq ?_
    refine r_seq ?_
    refine q_region hG ?_ ?_ -- R3
    · try simp only [and_true, true_and]
      exact hd
    refine k_seq ?_
    refine r_seq ?_
    refine q_region hG ?_ ?_ -- R4
    · try simp only [and_true, true_and]
      exact ⟨hx0, hx1, by omega⟩
    refine k_seq ?_
    refine r_seq ?_
    refine q_region hG ?_ ?_ -- R5
    · try simp only [and_true, true_and]
      exact ⟨hv, u64_nat hs32, by rw [Int.toNat_natCast]; exact hs⟩
    refine k_seq ?_
    refine r_seq ?_
    refine r_seq ?_
    refine q_region hG ?_ ?_ -- R6
    · try simp only [and_true, true_and]
      omega
    refine k_seq ?_
    refine q_cond ?_ ?_
    · intro hb1
      rw [Int.toNat_natCast] at hb1
      exact absurd (shr_fit (back_lt _) n2) (bne_iff_ne.1 hb1)
    · intro hb1
      try simp only [decide_eq_true_eq, decide_eq_false_iff_not, beq_eq_false_iff_ne, bne_eq_false_iff_eq, Bool.not_eq_false', Bool.and_eq_false_imp] at hb1
      try simp only [nth_gi, nth_row] at hb1
      refine r_skip ?_
      refine k_seq ?_
      refine r_seq ?_
      refine r_seq ?_
      refine q_region hG ?_ ?_ -- R8
      · first | trivial | omega | (simp; done) | (simp; omega)
      refine k_seq ?_
      refine j_block ?_
      refine j_loop (fun (z : Nat) => (⟨[(4, .l (.z .bool false)), (5, .l (.z (.slice (.slice (.int .i64))) (gD d))), (6, .l (.z (.int .u64) (someV (gD d) x : Int))), (7, .l (.z (.int .u64) (back (gD d) (someV (gD d) x) : Int))), (35, .l (.z (.int .i64) ((gD d).length : Int))), (36, .l (.z (.int .i64) (z : Int)))], []⟩ : AState)) (fun z => z ≤ (gD d).length) (fun z => (gD d).length - z) 0 ?_ ?_ ?_
      · simp only [ml0, ml1, Nat.reduceLT, Nat.reduceEqDiff, Nat.reduceAdd, Nat.reduceMul, Nat.reduceSub, Nat.reduceLeDiff, Nat.reduceBEq, Nat.reduceBNe, reduceIte, reduceDIte, reduceCtorEq]
        rw [Int.toNat_natCast]
        exact ⟨rfl, rfl⟩
      · omega
      · rintro v g1
        try dsimp only at g1
        refine r_seq ?_
        refine q_region hG ?_ ?_ -- R9
        · first | trivial | omega | (simp; done) | (simp; omega)
        refine k_seq ?_
        refine r_seq ?_
        refine q_cond ?_ ?_
        · intro hb2
          try simp only [decide_eq_true_eq, decide_eq_false_iff_not, beq_iff_eq, bne_iff_ne, Bool.not_eq_true', Bool.and_eq_true] at hb2
          try simp only [nth_gi, nth_row] at hb2
          refine r_skip ?_
          refine k_seq ?_
          refine r_seq ?_
          refine j_block ?_
          refine r_seq ?_
          refine q_region hG ?_ ?_ -- R10
          · first | trivial | omega | (simp; done) | (simp; omega)
          refine k_seq ?_
          refine r_seq ?_
          refine q_region hG ?_ ?_ -- R11
          · try simp only [and_true, true_and]
            have o := one_ok hv (v := v) (by omega)
            exact ⟨by omega, hv, o.1, o.2⟩
          refine k_seq ?_
          refine r_seq ?_
          refine q_region hG ?_ ?_ -- R12
          · try simp only [and_true, true_and]
            omega
          refine k_seq ?_
          refine q_cond ?_ ?_
          · intro hb3
            exact absurd (turn_eq hv hs (v := v) (by omega)) (bne_iff_ne.1 hb3)
          · intro hb3
            try simp only [decide_eq_true_eq, decide_eq_false_iff_not, beq_eq_false_iff_ne, bne_eq_false_iff_eq, Bool.not_eq_false', Bool.and_eq_false_imp] at hb3
            try simp only [nth_gi, nth_row] at hb3
            refine r_skip ?_
            refine k_block ?_
            refine k_seq ?_
            refine q_region hG ?_ ?_ -- R14
            · first | trivial | omega | (simp; done) | (simp; omega)
            show ∃ z, _
            simp only [ml0, ml1, Nat.reduceLT, Nat.reduceEqDiff, Nat.reduceAdd, Nat.reduceMul, Nat.reduceSub, Nat.reduceLeDiff, Nat.reduceBEq, Nat.reduceBNe, reduceIte, reduceDIte, reduceCtorEq]
            exact ⟨v + 1, by rw [wi (by omega) (by omega)]; simp, by omega, by omega⟩
        · intro hb2
          try simp only [decide_eq_true_eq, decide_eq_false_iff_not, beq_eq_false_iff_ne, bne_eq_false_iff_eq, Bool.not_eq_false', Bool.and_eq_false_imp] at hb2
          try simp only [nth_gi, nth_row] at hb2
          refine r_exit ?_
          refine k_seq_exit ?_
          refine k_round_exit ?_
          refine k_block_exit ?_
          refine k_seq ?_
          refine r_seq ?_
          refine q_region hG ?_ ?_ -- R15
          · first | trivial | omega | (simp; done) | (simp; omega)
          refine k_seq ?_
          refine r_ret ?_
          refine ⟨[], ?_⟩
          simp only [hT, tab3, mr0, mr1, mr2, isNilP, Nat.reduceLT, Nat.reduceEqDiff, Nat.reduceAdd, Nat.reduceMul, Nat.reduceSub, Nat.reduceLeDiff, Nat.reduceBEq, Nat.reduceBNe, reduceIte, reduceDIte, reduceCtorEq]

end Go.Proofs.YtcopdikdkkdlfaaDoor
end

section
/- The law GraphTurns: its row, its card. -/
namespace Go.Proofs.YtcopdikdkkdlfaaDoor.graphTurns
open Go Go.Cm Go.Cm.Gr Go.Proofs Go.ChangeShapes Go.WideShapes Go.ChangeAt Go.RowKit Go.Deep Go.Joins
set_option maxRecDepth 100000

theorem own : ownKnob Tryd.prog.godebug = none := by kernel_rfl
theorem rets : Tryd.f3.resultTypes = #[4] := by kernel_rfl
theorem bools : Tryd.prog.underlying 4 = some .bool := by kernel_rfl
def tys : List Ty := [(.st (.pair (.int .u8) (.pair (.slice (.arr 2 (.int .u8))) .bool))), (.int .u16)]
theorem reads : rdAll Tryd.prog tys Tryd.f3.params.toList = true := by kernel_rfl
theorem spec : TrueSpec Rows.graphTurnsSpec tys.length := ⟨rfl, fun _ ds h => match ds, h with | [a0, a1], _ => rfl⟩
abbrev vals : Array Value := #[.agg #[.int .u8 0, .slice none 0 0, .bool false], .int .u16 0]
theorem met (os : Os) : laidMet Tryd.prog Rows.graphTurnsRow.laid ((lawWorld os).forCall (fun _ _ => 0) ⟨#[], vals, []⟩).memory :=
  laidMet_of_run3 8 (by kernel_rfl) (by kernel_rfl) (by kernel_rfl)
theorem witness (os : Os) {H : Type} (enc : TypeId × Value → H) : ∃ places, DataW.whole enc Tryd.prog ((lawWorld os).forCall (fun _ _ => 0) ⟨#[], vals, []⟩).memory Tryd.f3.params.toList Rows.graphTurnsSpec.vars false vals.toList 8 = some ([.agg [.lit (.int .u8 0), .nil, .lit (.bool false)], .lit (.int .u16 0)], [], places) :=
  ⟨[], by kernel_rfl⟩
theorem tabs {W : World} (h : laidMetH Tryd.prog Rows.graphTurnsRow.laid W) : Tabs (lawBase W) := by
  have hL : laidMet Tryd.prog Rows.graphTurnsRow.laid W := h
  exact fun w hw => ctz_tab hL w hw

theorem lifted (os : Os) (started : os.Started) (H : Type) (enc : TypeId × Value → H) (F : Stop.Interp) :
    ReturnsInHanded {} Tryd.checked os 3 .any ((OpenSpec.ofChange Rows.graphTurnsSpec).preRow enc Tryd.prog Tryd.f3 Rows.graphTurnsRow.domain false Rows.graphTurnsRow.laid) (((OpenSpec.ofChange Rows.graphTurnsSpec).at F).post enc Tryd.prog Tryd.f3 false true false false) := by
  obtain ⟨places, hx⟩ := witness os enc
  refine returnsInHanded_of_row (C := Tryd.checked) (s := OpenSpec.ofChange Rows.graphTurnsSpec) own started (by kernel_rfl) Tryd.func3
    (witness_row_at (enc := enc) (C := Tryd.checked) false (lawWorld os) vals rfl (by kernel_rfl) (by kernel_rfl) (by kernel_rfl)
      (OpenSpec.preRow_of_cond 8 hx (by kernel_rfl) (fun k hk => by cases hk) (by kernel_rfl) (met os))) ?_
  intro W base args ds gs before hval hW _ _ _ hL _ _
  exact row_contract (ts := tys) (con := cTurns) reads rets bools spec (fun x h => by obtain ⟨x0, x1, ⟨⟩⟩ := x; obtain ⟨h0, h1, -⟩ := h; exact ⟨_, rfl, ⟨draft_of h0, u16_of h1⟩⟩) (valid3 (tabs hL)) hval hW

theorem said : Rows.GraphTurnsSaid :=
  OpenClaim.holds_of_cond 3 Tryd.f3 rfl rfl rfl rfl rfl rfl rfl ⟨rfl, rfl, rfl, rfl, rfl⟩ rfl rfl rfl rfl rfl (by kernel_rfl) Tryd.func3 (by kernel_rfl)
    (of_decide_eq_true (by kernel_rfl)) (by unfold Func.isWrapper; first | (rw [if_pos (by decide +kernel)]; kernel_rfl) | (rw [if_neg (by decide +kernel)]; exact ⟨rfl, rfl⟩))
    (fun os started H enc _ F => by rw [OpenClaim.pre_eq_preRow]; exact lifted os started H enc F)

theorem plain (f : FuncId) (fn : Func) (hf : Tryd.pinned.checked.prog.funcNamed "croupier/croupierlaw08.GraphTurns" = some f) (hfn : Tryd.pinned.checked.prog.funcs[f]? = some fn) :
    false = Tryd.pinned.checked.prog.looks [] ∧ ∀ (j : Nat) t, fn.params[j]? = some t → Tryd.pinned.checked.prog.wantsStandIn t = false := by
  obtain rfl : f = 3 := Option.some.inj ((show Tryd.prog.funcNamed "croupier/croupierlaw08.GraphTurns" = some 3 by kernel_rfl).symm.trans hf) |>.symm
  obtain rfl : fn = Tryd.f3 := (Option.some.inj (Tryd.func3.symm.trans hfn)).symm
  refine ⟨by kernel_rfl, fun j t ht => ?_⟩
  have hall : Tryd.f3.params.toList.all (fun t => !Tryd.prog.wantsStandIn t) = true := by kernel_rfl
  have := List.all_eq_true.1 hall t (by simpa using Array.mem_of_getElem? ht)
  exact (by simpa using this : Tryd.prog.wantsStandIn t = false)

theorem card : Rows.GraphTurnsCardSaid :=
  Claim7.holds_tied_plain_at .later [] _ _ _ _ said (fun _ h => by cases h) (by kernel_rfl) (fun _ h => by cases h) graphTurns_row_tie rfl ⟨rfl, rfl⟩ (by kernel_rfl) rfl plain (by kernel_rfl)

end Go.Proofs.YtcopdikdkkdlfaaDoor.graphTurns
end
