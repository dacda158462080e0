/- WholeSums holds for all texts and drafts: its row and card. -/
import Derived.Test.YtkgbdpmhdplddaaGreatDoorQ3
import Derived.Test.YtkgbdpmhdplddaaGreatDoorProg
import Derived.Test.YtkgbdpmhdplddaaGreatDoorQ5
import Derived.Test.YtkgbdpmhdplddaaGreatDoorQ6
import Derived.WalkKit
set_option linter.all false
set_option linter.unusedSimpArgs false
set_option linter.unusedVariables false

section
/- The functions of the package exact, one after the other: each meets its contract. -/
set_option linter.unusedSimpArgs false
set_option linter.unusedVariables false
set_option maxRecDepth 100000
namespace Go.Proofs.YtkgbdpmhdplddaaGreatDoor
open Go Go.Cm Go.Proofs

def tab327 (B : Base) : Tab := { types := [(3, (.int .i64)), (4, .bool), (9, .str), (24, (.st (.pair .bool (.pair (.slice (.int .u8)) (.int .u8))))), (28, (.arr 4 .str)), (29, (.int .i64))], elems := [], cons := [(6, cWorks), (7, cLCut), (8, cDraft), (9, cCheck), (10, cRCheck), (11, cIntT), (12, cRInt), (13, cLSums)], hint := [], N := 98, base := B }
theorem good327 {B : Base} (hB : Tabs B) : MGood Tryz.prog (tab327 B) := ⟨⟨types_cons ty3 (types_cons ty4 (types_cons ty9 (types_cons ty24 (types_cons ty28 (types_cons ty29 (types_nil)))))), elems_nil, by simp only [tab327, ioB]; omega⟩, cons_ok (cals_cons (cal_ok Tryz.func6 (by kernel_rfl) rfl (valid8 hB)) (cals_cons (cal_ok Tryz.func7 (by kernel_rfl) rfl (valid324 hB)) (cals_cons (cal_ok Tryz.func8 (by kernel_rfl) rfl (valid9 hB)) (cals_cons (cal_ok Tryz.func9 (by kernel_rfl) rfl (valid20 hB)) (cals_cons (cal_ok Tryz.func10 (by kernel_rfl) rfl (valid302 hB)) (cals_cons (cal_ok Tryz.func11 (by kernel_rfl) rfl (valid19 hB)) (cals_cons (cal_ok Tryz.func12 (by kernel_rfl) rfl (valid322 hB)) (cals_cons (cal_ok Tryz.func13 (by kernel_rfl) rfl (valid325 hB)) (cals_nil))))))))), by kernel_rfl⟩
def cLWS : Con := fun l os => match l, os with
  | [.z .str s, .z .str t, .z (.st (.pair .bool (.pair (.slice (.int .u8)) (.int .u8)))) a, .z (.st (.pair .bool (.pair (.slice (.int .u8)) (.int .u8)))) b], [] => some (DOK a ∧ DOK b, [.z .bool true], [])
  | _, _ => none

theorem valid327 {B : Base} (hB : Tabs B) : Valid B Tryz.prog 3 cLWS := by
  refine valid_of_J (T := tab327 B) (good327 hB).tab Tryz.func3 rfl rfl rfl ?_
  intro args os C rs os' hc hC
  unfold cLWS at hc
  split at hc
  case h_2 => cases hc
  rename_i s t a b
  cases hc
  refine ⟨by simp only [List.length_cons, List.length_nil, tab327]; omega, rfl, ?_⟩
  intro X hP hT hr
  have hG : MGood X.P X.T := by rw [hP, hT]; exact good327 hB
  unfold tab327 at hT
  have hX := And.intro (@cWorks.eq_1) <| And.intro (@cLCut.eq_1) <| And.intro (@cDraft.eq_1) <| And.intro (@cCheck.eq_1) <| And.intro (@cRCheck.eq_1) <| And.intro (@cIntT.eq_1) <| And.intro (@cRInt.eq_1) <| @cLSums.eq_1
  simp only [Tryz.f3, argEnv, ioList, ioB]
  refine r_seq ?_
  refine q_region hG ?_ ?_ -- R0
  · trivial
  refine k_seq ?_
  refine r_seq ?_
  refine r_seq ?_
  refine q_region hG ?_ ?_ -- R1
  · trivial
  refine k_seq ?_
  refine q_cond ?_ ?_
  · intro hb0
    cases hb0
  · intro hb0
    try simp only [decide_eq_true_eq, decide_eq_false_iff_not, beq_eq_false_iff_ne, bne_eq_false_iff_eq, Bool.not_eq_false', Bool.and_eq_false_imp] at hb0
    refine r_skip ?_
    refine k_seq ?_
    refine r_seq ?_
    refine q_region hG ?_ ?_ -- R3
    · trivial
    refine k_seq ?_
    refine r_seq ?_
    refine r_seq ?_
    refine q_draw hG ?_ ?_ -- R4
    · try simp only [and_true, true_and]
      exact hC
    refine k_seq ?_
    refine j_block ?_
    refine j_loop (fun (z : Nat) => (⟨[(0, .l (.z .str (s.take 60))), (1, .l (.z .str (t.take 60))), (6, .l (.z (.ptr (.st (.pair .bool (.pair (.slice (.int .u8)) (.int .u8))))) a)), (7, .l (.z (.ptr (.st (.pair .bool (.pair (.slice (.int .u8)) (.int .u8))))) b)), (28, .l (.z (.arr 4 .str) [s.take 60, t.take 60, dtext a, dtext b])), (29, .l (.z (.int .i64) (z : Int)))], []⟩ : AState)) (fun z => z ≤ 4) (fun z => 4 - z) 0 ?_ ?_ ?_
    · simp only [ml0, ml1, Nat.reduceLT, Nat.reduceEqDiff, Nat.reduceAdd, Nat.reduceMul, Nat.reduceSub, Nat.reduceLeDiff, Nat.reduceBEq, Nat.reduceBNe, reduceIte, reduceDIte, reduceCtorEq]
      rfl
    · omega
    · rintro k hk
      try dsimp only at hk
      have h4 := four_at ⟨sm60 s, sm60 t, d_sm hC.1, d_sm hC.2⟩ (k := k)
      refine r_seq ?_
      refine q_region hG ?_ ?_ -- R5
      · trivial
      refine k_seq ?_
      refine r_seq ?_
      refine q_cond ?_ ?_
      · intro hb1
        try simp only [decide_eq_true_eq] at hb1
        have h5 := h4 (by omega)
        refine r_skip ?_
        refine k_seq ?_
        refine r_seq ?_
        refine j_block ?_
        refine r_seq ?_
        refine q_region hG ?_ ?_ -- R6
        · try simp only [and_true, true_and]
          exact ⟨by omega, by show (k : Int) < 4; omega⟩
        refine k_seq ?_
        refine r_seq ?_
        refine r_seq ?_
        refine q_region hG ?_ ?_ -- R7
        · try simp only [and_true, true_and]
          rw [nth_s]; exact ⟨h5.short, h5.cap⟩
        refine k_seq ?_
        refine q_cond ?_ ?_
        · intro hb2
          cases hb2
        · intro hb2
          try simp only [decide_eq_true_eq, decide_eq_false_iff_not, beq_eq_false_iff_ne, bne_eq_false_iff_eq, Bool.not_eq_false', Bool.and_eq_false_imp] at hb2
          refine r_skip ?_
          refine k_seq ?_
          refine r_seq ?_
          refine q_region hG ?_ ?_ -- R9
          · try simp only [and_true, true_and]
            rw [nth_s]; exact h5.short
          refine k_seq ?_
          refine r_seq ?_
          refine r_seq ?_
          refine q_region hG ?_ ?_ -- R10
          · try simp only [and_true, true_and]
            rw [nth_s]; exact h5.cap
          refine k_seq ?_
          refine r_seq ?_
          refine q_region hG ?_ ?_ -- R11
          · trivial
          refine k_seq ?_
          refine q_cond ?_ ?_
          · intro hb3
            simp only [bne_iff_ne, ne_eq, nth_s] at hb3
            refine r_seq ?_
            refine r_seq ?_
            refine q_region hG ?_ ?_ -- R12
            · try simp only [and_true, true_and]
              exact ⟨fun h => h, fun h => by rw [h]; rfl⟩
            refine k_seq ?_
            refine q_cond ?_ ?_
            · intro hb4
              rw [nth_s, int_deadB hb3] at hb4
              cases hb4
            · intro hb4
              try simp only [decide_eq_true_eq, decide_eq_false_iff_not, beq_eq_false_iff_ne, bne_eq_false_iff_eq, Bool.not_eq_false', Bool.and_eq_false_imp] at hb4
              refine r_skip ?_
              refine k_seq ?_
              refine r_exit ?_
              refine k_seq_exit ?_
              refine k_block_exit ?_
              refine k_seq ?_
              refine q_region hG ?_ ?_ -- R17
              · trivial
              show ∃ z, _
              simp only [ml0, ml1, Nat.reduceLT, Nat.reduceEqDiff, Nat.reduceAdd, Nat.reduceMul, Nat.reduceSub, Nat.reduceLeDiff, Nat.reduceBEq, Nat.reduceBNe, reduceIte, reduceDIte, reduceCtorEq]
              exact ⟨k + 1, wi (by omega) (by omega), by omega, by omega⟩
          · intro hb3
            simp only [bne_eq_false_iff_eq, nth_s] at hb3
            have iv := int_vals hb3
            refine r_skip ?_
            refine k_seq ?_
            refine r_seq ?_
            refine q_region hG ?_ ?_ -- R14
            · try simp only [and_true, true_and]
              rw [nth_s]; exact (rs_of hb3).up (by omega)
            refine k_seq ?_
            refine r_seq ?_
            refine q_region hG ?_ ?_ -- R15
            · try simp only [and_true, true_and]
              repeat' (first | apply And.intro | exact fun h => h | (intro h; rw [h]; rfl) | (intro h; exact ⟨h, fun g => by rw [h, g]; rfl⟩))
            refine k_seq ?_
            refine q_cond ?_ ?_
            · intro hb5
              rw [nth_s, int_dead hb3] at hb5
              cases hb5
            · intro hb5
              try simp only [decide_eq_true_eq, decide_eq_false_iff_not, beq_eq_false_iff_ne, bne_eq_false_iff_eq, Bool.not_eq_false', Bool.and_eq_false_imp] at hb5
              refine r_skip ?_
              refine k_block ?_
              refine k_seq ?_
              refine q_region hG ?_ ?_ -- R17
              · trivial
              show ∃ z, _
              simp only [ml0, ml1, Nat.reduceLT, Nat.reduceEqDiff, Nat.reduceAdd, Nat.reduceMul, Nat.reduceSub, Nat.reduceLeDiff, Nat.reduceBEq, Nat.reduceBNe, reduceIte, reduceDIte, reduceCtorEq]
              exact ⟨k + 1, wi (by omega) (by omega), by omega, by omega⟩
      · intro hb1
        have d1 := sm60 s
        have d2 := sm60 t
        have d3 := d_sm hC.1
        have d4 := d_sm hC.2
        refine r_exit ?_
        refine k_seq_exit ?_
        refine k_round_exit ?_
        refine k_block_exit ?_
        refine k_seq ?_
        refine r_seq ?_
        refine q_draw hG ?_ ?_ -- R18
        · try simp only [and_true, true_and]
          simp [d1, d2, d3, d4, hC.1, hC.2]
        refine k_seq ?_
        refine r_ret ?_
        refine ⟨[], ?_⟩
        simp only [hT, tab327, mr0, mr1, mr2, Nat.reduceLT, Nat.reduceEqDiff, Nat.reduceAdd, Nat.reduceMul, Nat.reduceSub, Nat.reduceLeDiff, Nat.reduceBEq, Nat.reduceBNe, reduceIte, reduceDIte, reduceCtorEq]
        skip

end Go.Proofs.YtkgbdpmhdplddaaGreatDoor
end

section
/- The law WholeSums: its row, its card. -/
namespace Go.Proofs.YtkgbdpmhdplddaaGreatDoor.wholeSums
open Go Go.Cm Go.Proofs Go.ChangeShapes Go.WideShapes Go.ChangeAt Go.RowKit Go.Deep Go.Joins
set_option maxRecDepth 100000

theorem own : ownKnob Tryz.prog.godebug = none := by kernel_rfl
theorem rets : Tryz.f3.resultTypes = #[4] := by kernel_rfl
theorem bools : Tryz.prog.underlying 4 = some .bool := by kernel_rfl
def tys : List Ty := [.str, .str, (.st (.pair .bool (.pair (.slice (.int .u8)) (.int .u8)))), (.st (.pair .bool (.pair (.slice (.int .u8)) (.int .u8))))]
theorem reads : rdAll Tryz.prog tys Tryz.f3.params.toList = true := by kernel_rfl
theorem spec : TrueSpec Rows.wholeSumsSpec tys.length := ⟨rfl, fun _ ds h => match ds, h with | [a0, a1, a2, a3], _ => rfl⟩
abbrev vals : Array Value := #[.string { data := #[] }, .string { data := #[] }, .agg #[.bool false, .slice none 0 0, .int .u8 0], .agg #[.bool false, .slice none 0 0, .int .u8 0]]
theorem met (os : Os) : laidMet Tryz.prog Rows.wholeSumsRow.laid ((lawWorld os).forCall (fun _ _ => 0) ⟨#[], vals, []⟩).memory :=
  laidMet_of_run3 8 (by kernel_rfl) (by kernel_rfl) (by kernel_rfl)
theorem witness (os : Os) {H : Type} (enc : TypeId × Value → H) : ∃ places, DataW.whole enc Tryz.prog ((lawWorld os).forCall (fun _ _ => 0) ⟨#[], vals, []⟩).memory Tryz.f3.params.toList Rows.wholeSumsSpec.vars false vals.toList 8 = some ([.lit (.string []), .lit (.string []), .agg [.lit (.bool false), .nil, .lit (.int .u8 0)], .agg [.lit (.bool false), .nil, .lit (.int .u8 0)]], [], places) :=
  ⟨[], by kernel_rfl⟩
theorem tabs {W : World} (h : laidMetH Tryz.prog Rows.wholeSumsRow.laid W) : Tabs (lawBase W) := by
  have hL : laidMet Tryz.prog Rows.wholeSumsRow.laid W := h
  exact fun w hw => pow_tab (laidMet.tail (laidMet.tail hL)) w hw

theorem lifted (os : Os) (started : os.Started) (H : Type) (enc : TypeId × Value → H) (F : Stop.Interp) :
    ReturnsInHanded {} Tryz.checked os 3 .any ((OpenSpec.ofChange Rows.wholeSumsSpec).preRow enc Tryz.prog Tryz.f3 Rows.wholeSumsRow.domain false Rows.wholeSumsRow.laid) (((OpenSpec.ofChange Rows.wholeSumsSpec).at F).post enc Tryz.prog Tryz.f3 false true false false) := by
  obtain ⟨places, hx⟩ := witness os enc
  refine returnsInHanded_of_row (C := Tryz.checked) (s := OpenSpec.ofChange Rows.wholeSumsSpec) own started (by kernel_rfl) Tryz.func3
    (witness_row_at (enc := enc) (C := Tryz.checked) false (lawWorld os) vals rfl (by kernel_rfl) (by kernel_rfl) (by kernel_rfl)
      (OpenSpec.preRow_of_cond 8 hx (by kernel_rfl) (fun k hk => by cases hk) (by kernel_rfl) (met os))) ?_
  intro W base args ds gs before hval hW _ _ _ hL _ _
  exact row_contract (ts := tys) (con := cLWS) reads rets bools spec (fun x h => by obtain ⟨x0, x1, x2, x3, ⟨⟩⟩ := x; obtain ⟨h0, h1, h2, h3, -⟩ := h; exact ⟨_, rfl, ⟨dok_of h2, dok_of h3⟩⟩) (valid327 (tabs hL)) hval hW

theorem said : Rows.WholeSumsSaid :=
  OpenClaim.holds_of_cond 3 Tryz.f3 rfl rfl rfl rfl rfl rfl rfl ⟨rfl, rfl, rfl, rfl, rfl⟩ rfl rfl rfl rfl rfl (by kernel_rfl) Tryz.func3 (by kernel_rfl)
    (of_decide_eq_true (by kernel_rfl)) (by unfold Func.isWrapper; first | (rw [if_pos (by decide +kernel)]; kernel_rfl) | (rw [if_neg (by decide +kernel)]; exact ⟨rfl, rfl⟩))
    (fun os started H enc _ F => by rw [OpenClaim.pre_eq_preRow]; exact lifted os started H enc F)

theorem plain (f : FuncId) (fn : Func) (hf : Tryz.pinned.checked.prog.funcNamed "croupier/croupierlaw01.WholeSums" = some f) (hfn : Tryz.pinned.checked.prog.funcs[f]? = some fn) :
    true = Tryz.pinned.checked.prog.looks [] ∧ ∀ (j : Nat) t, fn.params[j]? = some t → Tryz.pinned.checked.prog.wantsStandIn t = false := by
  obtain rfl : f = 3 := Option.some.inj ((show Tryz.prog.funcNamed "croupier/croupierlaw01.WholeSums" = some 3 by kernel_rfl).symm.trans hf) |>.symm
  obtain rfl : fn = Tryz.f3 := (Option.some.inj (Tryz.func3.symm.trans hfn)).symm
  refine ⟨by kernel_rfl, fun j t ht => ?_⟩
  have hall : Tryz.f3.params.toList.all (fun t => !Tryz.prog.wantsStandIn t) = true := by kernel_rfl
  have := List.all_eq_true.1 hall t (by simpa using Array.mem_of_getElem? ht)
  exact (by simpa using this : Tryz.prog.wantsStandIn t = false)

theorem card : Rows.WholeSumsCardSaid :=
  Claim7.holds_tied_plain_at .later [] _ _ _ _ said (fun _ h => by cases h) (by kernel_rfl) (fun _ h => by cases h) wholeSums_row_tie rfl ⟨rfl, rfl⟩ (by kernel_rfl) rfl plain (by kernel_rfl)

end Go.Proofs.YtkgbdpmhdplddaaGreatDoor.wholeSums
end
