/- GraphDivides: the whole card, with no condition. -/
import Derived.Test.YtcopdikdkkdlfaaDoorQ4
import Derived.Test.YtcopdikdkkdlfaaDoorQ3
import Derived.Test.YtcopdikdkkdlfaaDoorProg
import Derived.Test.YtcopdikdkkdlfaaDoorQ5
import Derived.WalkKit
set_option linter.all false
set_option linter.unusedSimpArgs false
set_option linter.unusedVariables false

section
/- What the laws ask, in plain words. No program is in sight. -/
namespace Go.Cm.Gr
open Go.Cm
theorem shr_fit {m n : Nat} (h : m < 2 ^ n) (hn : n ≤ 32) : ((m : Int)).fdiv (2 ^ (min ((n : Int)).toNat IntKind.u64.bits)) = 0 := by
  rw [Int.toNat_natCast, shr64 (by omega), shr_zero.2 h]; rfl
theorem one_raw {v : Nat} (hv : v < 32) : IntKind.u64.wrap (1 * 2 ^ (min ((v : Int)).toNat IntKind.u64.bits)) = ((1 <<< v : Nat) : Int) := by
  rw [Int.toNat_natCast, shl1 (by omega)]
theorem one_ok {g : Gph} (hg : Val g) {v : Nat} (hv : v < g.length) : U64 (IntKind.u64.wrap (1 * 2 ^ (min ((v : Int)).toNat IntKind.u64.bits))) ∧ (IntKind.u64.wrap (1 * 2 ^ (min ((v : Int)).toNat IntKind.u64.bits))).toNat < 2 ^ g.length := by
  have := hg.most
  rw [one_raw (by omega), Int.toNat_natCast]
  exact ⟨u64_nat (one_lt32 (by omega)), one_lt hv⟩
theorem bit_is {m v : Nat} (hm : m < 2 ^ 64) (hv : v ≤ 64) : IntKind.u64.wrap ((BitVec.ofInt IntKind.u64.bits (((m : Int)).fdiv (2 ^ (min ((v : Int)).toNat IntKind.u64.bits))) &&& BitVec.ofInt IntKind.u64.bits 1).toNat : Int) = if m.testBit v = true then 1 else 0 := by
  rw [Int.toNat_natCast]; exact bit64 hm hv
theorem bit_eq1 {m v : Nat} (hm : m < 2 ^ 64) (hv : v ≤ 64) : (IntKind.u64.wrap ((BitVec.ofInt IntKind.u64.bits (((m : Int)).fdiv (2 ^ (min ((v : Int)).toNat IntKind.u64.bits))) &&& BitVec.ofInt IntKind.u64.bits 1).toNat : Int) == 1) = m.testBit v := by
  rw [bit_is hm hv]; cases m.testBit v <;> rfl
theorem bit_eq0 {m v : Nat} (hm : m < 2 ^ 64) (hv : v ≤ 64) : (IntKind.u64.wrap ((BitVec.ofInt IntKind.u64.bits (((m : Int)).fdiv (2 ^ (min ((v : Int)).toNat IntKind.u64.bits))) &&& BitVec.ofInt IntKind.u64.bits 1).toNat : Int) == 0) = !m.testBit v := by
  rw [bit_is hm hv]; cases m.testBit v <;> rfl
theorem back_lt {g : Gph} (s : Nat) : back g s < 2 ^ g.length := mask_lt _ _
theorem lt64 {g : Gph} (hg : Val g) {s : Nat} (hs : s < 2 ^ g.length) : s < 2 ^ 64 := Nat.lt_trans (lt32 hg hs) (by decide)
theorem turn_eq {g : Gph} (hg : Val g) {s v : Nat} (hs : s < 2 ^ g.length) (hv : v < g.length) : (IntKind.u64.wrap ((BitVec.ofInt IntKind.u64.bits (reach g (IntKind.u64.wrap (1 * 2 ^ (min ((v : Int)).toNat IntKind.u64.bits))).toNat : Int) &&& BitVec.ofInt IntKind.u64.bits (s : Int)).toNat : Int) != 0) = (IntKind.u64.wrap ((BitVec.ofInt IntKind.u64.bits (((back g s : Nat) : Int).fdiv (2 ^ (min ((v : Int)).toNat IntKind.u64.bits))) &&& BitVec.ofInt IntKind.u64.bits 1).toNat : Int) == 1) := by
  have := hg.most
  rw [bit_eq1 (lt64 hg (back_lt s)) (by omega), one_raw (by omega), Int.toNat_natCast]
  have h := hits_iff hg (u64_nat (lt32 hg hs)) hv
  rw [Int.toNat_natCast] at h
  have hb : (back g s).testBit v = hits g s v := by
    rw [← back_mask, mask_bit]; simp [hv]
  rw [hb]
  cases hh : hits g s v with
  | false => rw [h.2 hh]; rfl
  | true =>
    rw [bne_iff_ne]
    intro e
    rw [h.1 e] at hh; cases hh
end Go.Cm.Gr
end

section
/- GraphDivides and GraphReaches in plain words. No program is in sight. -/
namespace Go.Cm.Gr
open Go.Cm
def pairG (g : Gph) (d : Dft) (i : Nat) : Gph := if i = 0 then fewG g else gD d
theorem pair_at {g : Gph} {d : Dft} {i : Nat} (h : i < 2) : nth (.slice (.slice (.int .i64))) [fewG g, gD d] (i : Int) = pairG g d i := by
  rcases i with _ | _ | i
  · rfl
  · rfl
  · omega
theorem few_lens (g : Gph) : (fewG g).length ≤ 33 ∧ ∀ r ∈ fewG g, r.length ≤ 33 := by
  refine ⟨by simp [fewG, List.length_take]; omega, fun r hr => ?_⟩
  obtain ⟨r', _, rfl⟩ := List.mem_map.1 hr
  rw [List.length_take]; omega
theorem pair_lens (g : Gph) (d : Dft) (i : Nat) : (pairG g d i).length ≤ 1000000 ∧ ∀ r ∈ pairG g d i, r.length ≤ 1000000 := by
  unfold pairG
  split
  · exact ⟨by have := (few_lens g).1; omega, fun r hr => by have := (few_lens g).2 r hr; omega⟩
  · have hv := draft_val d
    refine ⟨by have := hv.most; omega, fun r hr => ?_⟩
    have := okRow_len (hv.rows r hr) (by have := hv.one; omega)
    have := hv.most
    omega
theorem parts_m {g : Gph} (hg : Val g) : (partsG g).length ≤ 1000000 := Nat.le_trans (parts_lims hg).1 (by decide)
theorem bot_m {g : Gph} (hg : Val g) : (botG g).length ≤ 1000000 := Nat.le_trans (List.length_filter_le _ _) (parts_m hg)
theorem ord_m {g : Gph} (hg : Val g) : (ordV g).length ≤ 1000000 := by
  unfold ordV
  split
  · rename_i l h
    rw [List.length_map, grd_len h]
    have := hg.most; omega
  · simp
theorem ord_last (g : Gph) : (ordB g && ordE g != 0 || !ordB g && (ordE g != 81 || ((ordV g).length : Int) != 0)) = false := by
  unfold ordB ordE ordV
  cases ordG g <;> rfl
end Go.Cm.Gr
end

section
/- The functions of the package graph, one after the other: each meets its contract. -/
set_option linter.unusedSimpArgs false
set_option linter.unusedVariables false
set_option maxRecDepth 100000
namespace Go.Proofs.YtcopdikdkkdlfaaDoor
open Go Go.Cm Go.Cm.Gr Go.Proofs

def tab9 (B : Base) : Tab := { types := [(3, (.int .i64)), (24, (.st (.pair (.int .u8) (.pair (.slice (.arr 2 (.int .u8))) .bool)))), (27, (.slice (.slice (.int .i64)))), (32, (.int .i64)), (36, (.slice (.int .i64))), (37, (.slice (.int .u64))), (50, (.arr 2 (.slice (.slice (.int .i64)))))], elems := [], cons := [(10, cWorks), (11, cDraft), (15, cParts), (16, cBottom), (18, cOrder), (19, cEqU), (24, cFew), (25, cRight), (29, cEq), (31, cRefParts), (32, cRefBottom), (33, cRefOrder)], hint := [], N := 118, base := B }
theorem good9 {B : Base} (hB : Tabs B) : MGood Tryd.prog (tab9 B) := ⟨⟨types_cons ty3 (types_cons ty24 (types_cons ty27 (types_cons ty32 (types_cons ty36 (types_cons ty37 (types_cons ty50 (types_nil))))))), elems_nil, by simp only [tab9, ioB]; omega⟩, cons_ok (cals_cons (cal_ok Tryd.func10 (by kernel_rfl) rfl (valid10 hB)) (cals_cons (cal_ok Tryd.func11 (by kernel_rfl) rfl (valid11 hB)) (cals_cons (cal_ok Tryd.func15 (by kernel_rfl) rfl (valid15 hB)) (cals_cons (cal_ok Tryd.func16 (by kernel_rfl) rfl (valid16 hB)) (cals_cons (cal_ok Tryd.func18 (by kernel_rfl) rfl (valid18 hB)) (cals_cons (cal_ok Tryd.func19 (by kernel_rfl) rfl (valid19 hB)) (cals_cons (cal_ok Tryd.func24 (by kernel_rfl) rfl (valid24 hB)) (cals_cons (cal_ok Tryd.func25 (by kernel_rfl) rfl (valid25 hB)) (cals_cons (cal_ok Tryd.func29 (by kernel_rfl) rfl (valid29 hB)) (cals_cons (cal_ok Tryd.func31 (by kernel_rfl) rfl (valid31 hB)) (cals_cons (cal_ok Tryd.func32 (by kernel_rfl) rfl (valid32 hB)) (cals_cons (cal_ok Tryd.func33 (by kernel_rfl) rfl (valid33 hB)) (cals_nil))))))))))))), by kernel_rfl⟩
def cDivides : Con := fun l os => match l, os with
  | [.z (.slice (.slice (.int .i64))) g, .z (.st (.pair (.int .u8) (.pair (.slice (.arr 2 (.int .u8))) .bool))) d], [] => some (Dok d, [.z .bool true], [])
  | _, _ => none

set_option maxHeartbeats 2000000 in
theorem valid9 {B : Base} (hB : Tabs B) : Valid B Tryd.prog 9 cDivides := by
  refine valid_of_J (T := tab9 B) (good9 hB).tab Tryd.func9 rfl rfl rfl ?_
  intro args os C rs os' hc hC
  unfold cDivides at hc
  split at hc
  case h_2 => cases hc
  rename_i g d
  cases hc
  refine ⟨by simp only [List.length_cons, List.length_nil, tab9]; omega, rfl, ?_⟩
  intro X hP hT hr
  have hG : MGood X.P X.T := by rw [hP, hT]; exact good9 hB
  unfold tab9 at hT
  have hX := And.intro (@cBottom.eq_1) <| And.intro (@cDraft.eq_1) <| And.intro (@cEq.eq_1) <| And.intro (@cEqU.eq_1) <| And.intro (@cFew.eq_1) <| And.intro (@cOrder.eq_1) <| And.intro (@cParts.eq_1) <| And.intro (@cRefBottom.eq_1) <| And.intro (@cRefOrder.eq_1) <| And.intro (@cRefParts.eq_1) <| And.intro (@cRight.eq_1) <| @cWorks.eq_1
  simp only [Tryd.f9, argEnv, ioList, ioB]
  refine r_seq ?_
  have hv := draft_val d
  have n1 := hv.one
  have n2 := hv.most
  refine q_region hG ?_ ?_ -- R0
  · first | trivial | omega | (simp; done) | (simp; omega)
  refine k_seq ?_
  refine r_seq ?_
  refine r_seq ?_
  refine q_region hG ?_ ?_ -- R1
  · first | trivial | omega | (simp; done) | (simp; omega)
  refine k_seq ?_
  refine q_cond ?_ ?_
  · intro hb0
    cases hb0
  · intro hb0
    try simp only [decide_eq_true_eq, decide_eq_false_iff_not, beq_eq_false_iff_ne, bne_eq_false_iff_eq, Bool.not_eq_false', Bool.and_eq_false_imp] at hb0
    try simp only [nth_gi, nth_row] at hb0
    refine r_skip ?_
    refine k_seq ?_
    refine r_seq ?_
    refine r_seq ?_
    refine q_draw hG ?_ ?_ -- R3
    · try simp only [and_true, true_and]
      exact hC
    refine k_seq ?_
    refine j_block ?_
    refine j_loop (fun (z : Nat) => (⟨[(3, .l (.z (.ptr (.st (.pair (.int .u8) (.pair (.slice (.arr 2 (.int .u8))) .bool)))) d)), (4, .l (.z .bool false)), (21, .l (.z (.arr 2 (.slice (.slice (.int .i64)))) [fewG g, gD d])), (22, .l (.z (.int .i64) (z : Int)))], []⟩ : AState)) (fun z => z ≤ 2) (fun z => 2 - z) 0 ?_ ?_ ?_
    · simp only [ml0, ml1, Nat.reduceLT, Nat.reduceEqDiff, Nat.reduceAdd, Nat.reduceMul, Nat.reduceSub, Nat.reduceLeDiff, Nat.reduceBEq, Nat.reduceBNe, reduceIte, reduceDIte, reduceCtorEq]
      rfl
    · omega
    · rintro i g1
      try dsimp only at g1
      refine r_seq ?_
      refine q_region hG ?_ ?_ -- R4
      · first | trivial | omega | (simp; done) | (simp; omega)
      refine k_seq ?_
      refine r_seq ?_
      refine q_cond ?_ ?_
      · intro hb1
        try simp only [decide_eq_true_eq, decide_eq_false_iff_not, beq_iff_eq, bne_iff_ne, Bool.not_eq_true', Bool.and_eq_true] at hb1
        try simp only [nth_gi, nth_row] at hb1
        refine r_skip ?_
        refine k_seq ?_
        refine r_seq ?_
        refine j_block ?_
        refine r_seq ?_
        refine q_region hG ?_ ?_ -- R5
        · try simp only [and_true, true_and]
          omega
        refine k_seq ?_
        refine r_seq ?_
        rw [pair_at (show i < 2 by omega)]
        have hl := pair_lens g d i
        generalize pairG g d i = x at hl ⊢
        refine q_region hG ?_ ?_ -- R6
        · try simp only [and_true, true_and]
          exact hl
        refine k_seq ?_
        refine r_seq ?_
        refine q_region hG ?_ ?_ -- R7
        · try simp only [and_true, true_and]
          exact hl
        refine k_seq ?_
        refine r_seq ?_
        refine q_region hG ?_ ?_ -- R8
        · try simp only [and_true, true_and]
          exact hl
        refine k_seq ?_
        refine r_seq ?_
        refine r_seq ?_
        refine q_region hG ?_ ?_ -- R9
        · try simp only [and_true, true_and]
          exact hl
        refine k_seq ?_
        refine q_cond ?_ ?_
        · intro hb2
          try simp only [decide_eq_true_eq, decide_eq_false_iff_not, beq_iff_eq, bne_iff_ne, Bool.not_eq_true', Bool.and_eq_true] at hb2
          try simp only [nth_gi, nth_row] at hb2
          have r0 := (rd_bad hb2 (ss := [])).2
          simp only [r0, show ¬ (80 : Int) = 0 by decide, if_false]
          refine r_seq ?_
          refine r_seq ?_
          refine q_region hG ?_ ?_ -- R10
          · try simp only [and_true, true_and]
            (repeat' (first | apply And.intro | intro _)) <;> first | assumption | omega | (rename_i h; rw [h]; rfl) | (rename_i h1 h2; rw [h1, h2]; rfl)
          refine k_seq ?_
          refine q_cond ?_ ?_
          · intro hb3
            exact absurd hb3 (by decide)
          · intro hb3
            try simp only [decide_eq_true_eq, decide_eq_false_iff_not, beq_eq_false_iff_ne, bne_eq_false_iff_eq, Bool.not_eq_false', Bool.and_eq_false_imp] at hb3
            try simp only [nth_gi, nth_row] at hb3
            refine r_skip ?_
            refine k_seq ?_
            refine r_exit ?_
            refine k_seq_exit ?_
            refine k_block_exit ?_
            refine k_seq ?_
            refine q_region hG ?_ ?_ -- R17
            · first | trivial | omega | (simp; done) | (simp; omega)
            show ∃ z, _
            simp only [ml0, ml1, Nat.reduceLT, Nat.reduceEqDiff, Nat.reduceAdd, Nat.reduceMul, Nat.reduceSub, Nat.reduceLeDiff, Nat.reduceBEq, Nat.reduceBNe, reduceIte, reduceDIte, reduceCtorEq]
            exact ⟨i + 1, by rw [wi (by omega) (by omega)]; simp, by omega, by omega⟩
        · intro hb2
          try simp only [decide_eq_true_eq, decide_eq_false_iff_not, beq_eq_false_iff_ne, bne_eq_false_iff_eq, Bool.not_eq_false', Bool.and_eq_false_imp] at hb2
          try simp only [nth_gi, nth_row] at hb2
          have hw : Val x := okG_iff.1 hb2
          have r0 := (rd_good hb2 (ss := []) rfl).2
          simp only [r0, if_true]
          refine r_skip ?_
          refine k_seq ?_
          refine r_seq ?_
          refine r_seq ?_
          refine q_region hG ?_ ?_ -- R12
          · try simp only [and_true, true_and]
            (repeat' (first | apply And.intro | intro _)) <;> first | assumption | omega | (rename_i h; rw [h]; rfl) | (rename_i h1 h2; rw [h1, h2]; rfl) | exact hw | exact parts_m hw | exact bot_m hw
          refine k_seq ?_
          refine q_cond ?_ ?_
          · intro hb4
            cases hb4
          · intro hb4
            try simp only [decide_eq_true_eq, decide_eq_false_iff_not, beq_eq_false_iff_ne, bne_eq_false_iff_eq, Bool.not_eq_false', Bool.and_eq_false_imp] at hb4
            try simp only [nth_gi, nth_row] at hb4
            refine r_skip ?_
            refine k_seq ?_
            refine r_seq ?_
            refine q_region hG ?_ ?_ -- R14
            · try simp only [and_true, true_and]
              exact hw
            refine k_seq ?_
            refine r_seq ?_
            refine q_region hG ?_ ?_ -- R15
            · try simp only [and_true, true_and]
              (repeat' (first | apply And.intro | intro _)) <;> first | assumption | omega | (rename_i h; rw [h]; rfl) | (rename_i h1 h2; rw [h1, h2]; rfl) | exact ord_m hw
            refine k_seq ?_
            refine q_cond ?_ ?_
            · intro hb5
              exact absurd hb5 (Bool.eq_false_iff.1 (ord_last x))
            · intro hb5
              try simp only [decide_eq_true_eq, decide_eq_false_iff_not, beq_eq_false_iff_ne, bne_eq_false_iff_eq, Bool.not_eq_false', Bool.and_eq_false_imp] at hb5
              try simp only [nth_gi, nth_row] at hb5
              refine r_skip ?_
              refine k_block ?_
              refine k_seq ?_
              refine q_region hG ?_ ?_ -- R17
              · first | trivial | omega | (simp; done) | (simp; omega)
              show ∃ z, _
              simp only [ml0, ml1, Nat.reduceLT, Nat.reduceEqDiff, Nat.reduceAdd, Nat.reduceMul, Nat.reduceSub, Nat.reduceLeDiff, Nat.reduceBEq, Nat.reduceBNe, reduceIte, reduceDIte, reduceCtorEq]
              exact ⟨i + 1, by rw [wi (by omega) (by omega)]; simp, by omega, by omega⟩
      · intro hb1
        try simp only [decide_eq_true_eq, decide_eq_false_iff_not, beq_eq_false_iff_ne, bne_eq_false_iff_eq, Bool.not_eq_false', Bool.and_eq_false_imp] at hb1
        try simp only [nth_gi, nth_row] at hb1
        refine r_exit ?_
        refine k_seq_exit ?_
        refine k_round_exit ?_
        refine k_block_exit ?_
        refine k_seq ?_
        refine r_seq ?_
        refine q_region hG ?_ ?_ -- R18
        · first | trivial | omega | (simp; done) | (simp; omega)
        refine k_seq ?_
        refine r_ret ?_
        refine ⟨[], ?_⟩
        simp only [hT, tab9, mr0, mr1, mr2, isNilP, Nat.reduceLT, Nat.reduceEqDiff, Nat.reduceAdd, Nat.reduceMul, Nat.reduceSub, Nat.reduceLeDiff, Nat.reduceBEq, Nat.reduceBNe, reduceIte, reduceDIte, reduceCtorEq]

end Go.Proofs.YtcopdikdkkdlfaaDoor
end

section
/- The law GraphDivides: its row, its card. -/
namespace Go.Proofs.YtcopdikdkkdlfaaDoor.graphDivides
open Go Go.Cm Go.Cm.Gr Go.Proofs Go.ChangeShapes Go.WideShapes Go.ChangeAt Go.RowKit Go.Deep Go.Joins
set_option maxRecDepth 100000

theorem own : ownKnob Tryd.prog.godebug = none := by kernel_rfl
theorem rets : Tryd.f9.resultTypes = #[4] := by kernel_rfl
theorem bools : Tryd.prog.underlying 4 = some .bool := by kernel_rfl
def tys : List Ty := [(.slice (.slice (.int .i64))), (.st (.pair (.int .u8) (.pair (.slice (.arr 2 (.int .u8))) .bool)))]
theorem reads : rdAll Tryd.prog tys Tryd.f9.params.toList = true := by kernel_rfl
theorem spec : TrueSpec Rows.graphDividesSpec tys.length := ⟨rfl, fun _ ds h => match ds, h with | [a0, a1], _ => rfl⟩
abbrev vals : Array Value := #[.slice none 0 0, .agg #[.int .u8 0, .slice none 0 0, .bool false]]
theorem met (os : Os) : laidMet Tryd.prog Rows.graphDividesRow.laid ((lawWorld os).forCall (fun _ _ => 0) ⟨#[], vals, []⟩).memory :=
  laidMet_of_run3 8 (by kernel_rfl) (by kernel_rfl) (by kernel_rfl)
theorem witness (os : Os) {H : Type} (enc : TypeId × Value → H) : ∃ places, DataW.whole enc Tryd.prog ((lawWorld os).forCall (fun _ _ => 0) ⟨#[], vals, []⟩).memory Tryd.f9.params.toList Rows.graphDividesSpec.vars false vals.toList 8 = some ([.nil, .agg [.lit (.int .u8 0), .nil, .lit (.bool false)]], [], places) :=
  ⟨[], by kernel_rfl⟩
theorem tabs {W : World} (h : laidMetH Tryd.prog Rows.graphDividesRow.laid W) : Tabs (lawBase W) := by
  have hL : laidMet Tryd.prog Rows.graphDividesRow.laid W := h
  exact fun w hw => ctz_tab hL w hw

theorem lifted (os : Os) (started : os.Started) (H : Type) (enc : TypeId × Value → H) (F : Stop.Interp) :
    ReturnsInHanded {} Tryd.checked os 9 .any ((OpenSpec.ofChange Rows.graphDividesSpec).preRow enc Tryd.prog Tryd.f9 Rows.graphDividesRow.domain false Rows.graphDividesRow.laid) (((OpenSpec.ofChange Rows.graphDividesSpec).at F).post enc Tryd.prog Tryd.f9 false true false false) := by
  obtain ⟨places, hx⟩ := witness os enc
  refine returnsInHanded_of_row (C := Tryd.checked) (s := OpenSpec.ofChange Rows.graphDividesSpec) own started (by kernel_rfl) Tryd.func9
    (witness_row_at (enc := enc) (C := Tryd.checked) false (lawWorld os) vals rfl (by kernel_rfl) (by kernel_rfl) (by kernel_rfl)
      (OpenSpec.preRow_of_cond 8 hx (by kernel_rfl) (fun k hk => by cases hk) (by kernel_rfl) (met os))) ?_
  intro W base args ds gs before hval hW _ _ _ hL _ _
  exact row_contract (ts := tys) (con := cDivides) reads rets bools spec (fun x h => by obtain ⟨x0, x1, ⟨⟩⟩ := x; obtain ⟨h0, h1, -⟩ := h; exact ⟨_, rfl, draft_of h1⟩) (valid9 (tabs hL)) hval hW

theorem said : Rows.GraphDividesSaid :=
  OpenClaim.holds_of_cond 9 Tryd.f9 rfl rfl rfl rfl rfl rfl rfl ⟨rfl, rfl, rfl, rfl, rfl⟩ rfl rfl rfl rfl rfl (by kernel_rfl) Tryd.func9 (by kernel_rfl)
    (of_decide_eq_true (by kernel_rfl)) (by unfold Func.isWrapper; first | (rw [if_pos (by decide +kernel)]; kernel_rfl) | (rw [if_neg (by decide +kernel)]; exact ⟨rfl, rfl⟩))
    (fun os started H enc _ F => by rw [OpenClaim.pre_eq_preRow]; exact lifted os started H enc F)

theorem plain (f : FuncId) (fn : Func) (hf : Tryd.pinned.checked.prog.funcNamed "croupier/croupierlaw08.GraphDivides" = some f) (hfn : Tryd.pinned.checked.prog.funcs[f]? = some fn) :
    false = Tryd.pinned.checked.prog.looks [] ∧ ∀ (j : Nat) t, fn.params[j]? = some t → Tryd.pinned.checked.prog.wantsStandIn t = false := by
  obtain rfl : f = 9 := Option.some.inj ((show Tryd.prog.funcNamed "croupier/croupierlaw08.GraphDivides" = some 9 by kernel_rfl).symm.trans hf) |>.symm
  obtain rfl : fn = Tryd.f9 := (Option.some.inj (Tryd.func9.symm.trans hfn)).symm
  refine ⟨by kernel_rfl, fun j t ht => ?_⟩
  have hall : Tryd.f9.params.toList.all (fun t => !Tryd.prog.wantsStandIn t) = true := by kernel_rfl
  have := List.all_eq_true.1 hall t (by simpa using Array.mem_of_getElem? ht)
  exact (by simpa using this : Tryd.prog.wantsStandIn t = false)

theorem card : Rows.GraphDividesCardSaid :=
  Claim7.holds_tied_plain_at .later [] _ _ _ _ said (fun _ h => by cases h) (by kernel_rfl) (fun _ h => by cases h) graphDivides_row_tie rfl ⟨rfl, rfl⟩ (by kernel_rfl) rfl plain (by kernel_rfl)

end Go.Proofs.YtcopdikdkkdlfaaDoor.graphDivides
end
