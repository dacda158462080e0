/- WholePowers holds for all texts, numbers and drafts: its row and card. -/
import Derived.Test.YtkgbdpmhdplddaaGreatDoorQ3
import Derived.Test.YtkgbdpmhdplddaaGreatDoorProg
import Derived.Test.YtkgbdpmhdplddaaGreatDoorQ5
import Derived.Test.YtkgbdpmhdplddaaGreatDoorQ6
import Derived.WalkKit
set_option linter.all false
set_option linter.unusedSimpArgs false
set_option linter.unusedVariables false

section
/- The functions of the package exact, one after the other: each meets its contract. -/
set_option linter.unusedSimpArgs false
set_option linter.unusedVariables false
set_option maxRecDepth 100000
namespace Go.Proofs.YtkgbdpmhdplddaaGreatDoor
open Go Go.Cm Go.Proofs

def tab329 (B : Base) : Tab := { types := [(3, (.int .i64)), (5, (.int .u8)), (9, .str), (24, (.st (.pair .bool (.pair (.slice (.int .u8)) (.int .u8))))), (29, (.int .i64))], elems := [], cons := [(6, cWorks), (7, cLCut), (8, cDraft), (10, cRCheck), (17, cLTold), (18, cRMul), (21, cPow)], hint := [], N := 72, base := B }
theorem good329 {B : Base} (hB : Tabs B) : MGood Tryz.prog (tab329 B) := ⟨⟨types_cons ty3 (types_cons ty5 (types_cons ty9 (types_cons ty24 (types_cons ty29 (types_nil))))), elems_nil, by simp only [tab329, ioB]; omega⟩, cons_ok (cals_cons (cal_ok Tryz.func6 (by kernel_rfl) rfl (valid8 hB)) (cals_cons (cal_ok Tryz.func7 (by kernel_rfl) rfl (valid324 hB)) (cals_cons (cal_ok Tryz.func8 (by kernel_rfl) rfl (valid9 hB)) (cals_cons (cal_ok Tryz.func10 (by kernel_rfl) rfl (valid302 hB)) (cals_cons (cal_ok Tryz.func17 (by kernel_rfl) rfl (valid326 hB)) (cals_cons (cal_ok Tryz.func18 (by kernel_rfl) rfl (valid318 hB)) (cals_cons (cal_ok Tryz.func21 (by kernel_rfl) rfl (valid23 hB)) (cals_nil)))))))), by kernel_rfl⟩
def cLWW : Con := fun l os => match l, os with
  | [.z .str s, .z (.int .i64) n, .z (.st (.pair .bool (.pair (.slice (.int .u8)) (.int .u8)))) a, .z (.int .u8) c], [] => some (I64 n ∧ DOK a ∧ 0 ≤ c ∧ c < 256, [.z .bool true], [])
  | _, _ => none

theorem valid329 {B : Base} (hB : Tabs B) : Valid B Tryz.prog 5 cLWW := by
  refine valid_of_J (T := tab329 B) (good329 hB).tab Tryz.func5 rfl rfl rfl ?_
  intro args os C rs os' hc hC
  unfold cLWW at hc
  split at hc
  case h_2 => cases hc
  rename_i s n a c
  cases hc
  refine ⟨by simp only [List.length_cons, List.length_nil, tab329]; omega, rfl, ?_⟩
  intro X hP hT hr
  have hG : MGood X.P X.T := by rw [hP, hT]; exact good329 hB
  unfold tab329 at hT
  have hX := And.intro (@cWorks.eq_1) <| And.intro (@cLCut.eq_1) <| And.intro (@cPow.eq_1) <| And.intro (@cRCheck.eq_1) <| And.intro (@cDraft.eq_1) <| And.intro (@cRMul.eq_1) <| @cLTold.eq_1
  simp only [Tryz.f5, argEnv, ioList, ioB]
  refine r_seq ?_
  refine q_region hG ?_ ?_ -- R0
  · trivial
  refine k_seq ?_
  refine r_seq ?_
  refine r_seq ?_
  refine q_region hG ?_ ?_ -- R1
  · trivial
  refine k_seq ?_
  refine q_cond ?_ ?_
  · intro hb0
    cases hb0
  · intro hb0
    try simp only [decide_eq_true_eq, decide_eq_false_iff_not, beq_eq_false_iff_ne, bne_eq_false_iff_eq, Bool.not_eq_false', Bool.and_eq_false_imp] at hb0
    refine r_skip ?_
    refine k_seq ?_
    refine r_seq ?_
    refine q_region hG ?_ ?_ -- R3
    · try simp only [and_true, true_and]
      exact ⟨(sm60 s).short, hC.1⟩
    refine k_seq ?_
    refine r_seq ?_
    refine q_region hG ?_ ?_ -- R4
    · try simp only [and_true, true_and]
      exact (sm60 s).cap
    refine k_seq ?_
    refine r_cut (fun (z : Unit) => (⟨[(6, .l (.z (.ptr (.st (.pair .bool (.pair (.slice (.int .u8)) (.int .u8))))) a)), (3, .l (.z (.int .u8) c)), (9, .l (.z .str (powV (s.take 60) n))), (10, .l (.z (.int .i64) (powE (s.take 60) n))), (11, .l (.z (.int .i64) (powNo (s.take 60) n)))], []⟩ : AState)) (fun z => True) ?_ ?_
    · refine r_seq ?_
      refine q_region hG ?_ ?_ -- R5
      · try simp only [and_true, true_and]
        repeat' (first | apply And.intro | exact fun h => h | (intro h; rw [h]; rfl) | (intro h; exact ⟨h, fun g => by rw [h, g]; rfl⟩))
      refine k_seq ?_
      refine q_cond ?_ ?_
      · intro hb1
        try simp only [decide_eq_true_eq, decide_eq_false_iff_not, beq_iff_eq, bne_iff_ne, Bool.not_eq_true', Bool.and_eq_true] at hb1
        refine q_region hG ?_ ?_ -- R6
        · trivial
        show ∃ z, _
        simp only [ml0, ml1, Nat.reduceLT, Nat.reduceEqDiff, Nat.reduceAdd, Nat.reduceMul, Nat.reduceSub, Nat.reduceLeDiff, Nat.reduceBEq, Nat.reduceBNe, reduceIte, reduceDIte, reduceCtorEq]
        first | exact powNo_t hb1 | exact powNo_f hb1
      · intro hb1
        try simp only [decide_eq_true_eq, decide_eq_false_iff_not, beq_eq_false_iff_ne, bne_eq_false_iff_eq, Bool.not_eq_false', Bool.and_eq_false_imp] at hb1
        refine r_skip ?_
        show ∃ z, _
        simp only [ml0, ml1, Nat.reduceLT, Nat.reduceEqDiff, Nat.reduceAdd, Nat.reduceMul, Nat.reduceSub, Nat.reduceLeDiff, Nat.reduceBEq, Nat.reduceBNe, reduceIte, reduceDIte, reduceCtorEq]
        first | exact powNo_t hb1 | exact powNo_f hb1
    rintro ⟨⟩ hu
    try dsimp only at hu
    refine r_seq ?_
    refine r_seq ?_
    refine q_region hG ?_ ?_ -- R7
    · try simp only [and_true, true_and]
      repeat' (first | apply And.intro | exact fun h => h | (intro h; rw [h]; rfl) | (intro h; exact ⟨h, fun g => by rw [h, g]; rfl⟩))
    refine k_seq ?_
    refine q_cond ?_ ?_
    · intro hb2
      simp only [Bool.and_eq_true, bne_iff_ne, ne_eq] at hb2
      have hv := powNo_bad hb2.1
      simp [hv.1, hv.2] at hb2
    · intro hb2
      try simp only [decide_eq_true_eq, decide_eq_false_iff_not, beq_eq_false_iff_ne, bne_eq_false_iff_eq, Bool.not_eq_false', Bool.and_eq_false_imp] at hb2
      refine r_skip ?_
      refine k_seq ?_
      refine r_seq ?_
      refine q_region hG ?_ ?_ -- R9
      · try simp only [and_true, true_and]
        exact hC.2.1
      refine k_seq ?_
      refine r_cut (fun (z : List UInt8) => (⟨[(3, .l (.z (.int .u8) c)), (12, .l (.z .str z))], []⟩ : AState)) (fun z => chk z = 0 ∧ z.length ≤ 40) ?_ ?_
      · refine r_seq ?_
        refine q_region hG ?_ ?_ -- R10
        · trivial
        refine k_seq ?_
        refine q_cond ?_ ?_
        · intro hb3
          try simp only [decide_eq_true_eq, decide_eq_false_iff_not, beq_iff_eq, bne_iff_ne, Bool.not_eq_true', Bool.and_eq_true] at hb3
          refine q_region hG ?_ ?_ -- R11
          · trivial
          show ∃ z, _
          simp only [ml0, ml1, Nat.reduceLT, Nat.reduceEqDiff, Nat.reduceAdd, Nat.reduceMul, Nat.reduceSub, Nat.reduceLeDiff, Nat.reduceBEq, Nat.reduceBNe, reduceIte, reduceDIte, reduceCtorEq]
          first | decide | exact ⟨(dtext_ok hC.2.1).1, by omega⟩
        · intro hb3
          try simp only [decide_eq_true_eq, decide_eq_false_iff_not, beq_eq_false_iff_ne, bne_eq_false_iff_eq, Bool.not_eq_false', Bool.and_eq_false_imp] at hb3
          refine r_skip ?_
          show ∃ z, _
          simp only [ml0, ml1, Nat.reduceLT, Nat.reduceEqDiff, Nat.reduceAdd, Nat.reduceMul, Nat.reduceSub, Nat.reduceLeDiff, Nat.reduceBEq, Nat.reduceBNe, reduceIte, reduceDIte, reduceCtorEq]
          first | decide | exact ⟨(dtext_ok hC.2.1).1, by omega⟩
      rintro x ⟨hx, hl⟩
      try dsimp only at hx hl
      obtain ⟨c1, c2, c3, c4⟩ := hC
      have hmod := c_mod c3
      have hlt : c.toNat % 64 < 64 := Nat.mod_lt _ (by decide)
      have hit := fun i hi => pow_itoa (x := x) (i := i) hx (rs_num (rs_of hx).1) (by omega) hi
      refine r_seq ?_
      refine q_region hG ?_ ?_ -- R12
      · trivial
      refine k_seq ?_
      refine r_seq ?_
      refine r_seq ?_
      refine q_region hG ?_ ?_ -- R13
      · try simp only [and_true, true_and]
        decide
      refine k_seq ?_
      refine j_block ?_
      refine j_loop (fun (z : Nat) => (⟨[(3, .l (.z (.int .u8) c)), (12, .l (.z .str x)), (13, .l (.z .str (Lib.itoa (numI x ^ z)))), (53, .l (.z (.int .u8) ((c.toNat % 64 : Nat) : Int))), (54, .l (.z (.int .u8) (z : Int)))], []⟩ : AState)) (fun z => z ≤ c.toNat % 64) (fun z => c.toNat % 64 - z) 0 ?_ ?_ ?_
      · simp only [ml0, ml1, Nat.reduceLT, Nat.reduceEqDiff, Nat.reduceAdd, Nat.reduceMul, Nat.reduceSub, Nat.reduceLeDiff, Nat.reduceBEq, Nat.reduceBNe, reduceIte, reduceDIte, reduceCtorEq]
        exact ⟨by rw [Int.pow_zero, ← rs_one.2, form_text rs_one.1.1], hmod, rfl⟩
      · omega
      · rintro k hk
        try dsimp only at hk
        refine r_seq ?_
        refine q_region hG ?_ ?_ -- R14
        · trivial
        refine k_seq ?_
        refine r_seq ?_
        refine q_cond ?_ ?_
        · intro hb4
          try simp only [decide_eq_true_eq, decide_eq_false_iff_not, beq_iff_eq, bne_iff_ne, Bool.not_eq_true', Bool.and_eq_true] at hb4
          refine r_skip ?_
          refine k_seq ?_
          refine r_seq ?_
          refine j_block ?_
          refine q_region hG ?_ ?_ -- R15
          · try simp only [and_true, true_and]
            exact ⟨(hit k (by omega)).1, (hit k (by omega)).2.2.2⟩
          refine k_block ?_
          refine k_seq ?_
          refine q_region hG ?_ ?_ -- R16
          · trivial
          show ∃ z, _
          simp only [ml0, ml1, Nat.reduceLT, Nat.reduceEqDiff, Nat.reduceAdd, Nat.reduceMul, Nat.reduceSub, Nat.reduceLeDiff, Nat.reduceBEq, Nat.reduceBNe, reduceIte, reduceDIte, reduceCtorEq]
          exact ⟨k + 1, by rw [(form_itoa _).2, Int.pow_succ], by rw [w8 (by omega) (by omega)]; rfl, by omega, by omega⟩
        · intro hb4
          try simp only [decide_eq_true_eq, decide_eq_false_iff_not, beq_eq_false_iff_ne, bne_eq_false_iff_eq, Bool.not_eq_false', Bool.and_eq_false_imp] at hb4
          refine r_exit ?_
          refine k_seq_exit ?_
          refine k_round_exit ?_
          refine k_block_exit ?_
          refine k_seq ?_
          refine r_seq ?_
          refine q_region hG ?_ ?_ -- R17
          · try simp only [and_true, true_and]
            exact ⟨by decide, right_short hx, by rw [hmod, wi (by omega) (by omega)]; unfold I64; omega⟩
          refine k_seq ?_
          refine r_seq ?_
          refine q_region hG ?_ ?_ -- R18
          · try simp only [and_true, true_and]
            exact (hit k (by omega)).2.1
          refine k_seq ?_
          refine r_ret ?_
          refine ⟨[], ?_⟩
          simp only [hT, tab329, mr0, mr1, mr2, Nat.reduceLT, Nat.reduceEqDiff, Nat.reduceAdd, Nat.reduceMul, Nat.reduceSub, Nat.reduceLeDiff, Nat.reduceBEq, Nat.reduceBNe, reduceIte, reduceDIte, reduceCtorEq]
          have hke : k = c.toNat % 64 := by omega
          rw [hmod, wi (by omega) (by omega), (form_itoa _).2, ← hke]
          exact pow_law hx (by omega)

end Go.Proofs.YtkgbdpmhdplddaaGreatDoor
end

section
/- The law WholePowers: its row, its card. -/
namespace Go.Proofs.YtkgbdpmhdplddaaGreatDoor.wholePowers
open Go Go.Cm Go.Proofs Go.ChangeShapes Go.WideShapes Go.ChangeAt Go.RowKit Go.Deep Go.Joins
set_option maxRecDepth 100000

theorem own : ownKnob Tryz.prog.godebug = none := by kernel_rfl
theorem rets : Tryz.f5.resultTypes = #[4] := by kernel_rfl
theorem bools : Tryz.prog.underlying 4 = some .bool := by kernel_rfl
def tys : List Ty := [.str, (.int .i64), (.st (.pair .bool (.pair (.slice (.int .u8)) (.int .u8)))), (.int .u8)]
theorem reads : rdAll Tryz.prog tys Tryz.f5.params.toList = true := by kernel_rfl
theorem spec : TrueSpec Rows.wholePowersSpec tys.length := ⟨rfl, fun _ ds h => match ds, h with | [a0, a1, a2, a3], _ => rfl⟩
abbrev vals : Array Value := #[.string { data := #[] }, .int .i64 0, .agg #[.bool false, .slice none 0 0, .int .u8 0], .int .u8 0]
theorem met (os : Os) : laidMet Tryz.prog Rows.wholePowersRow.laid ((lawWorld os).forCall (fun _ _ => 0) ⟨#[], vals, []⟩).memory :=
  laidMet_of_run3 8 (by kernel_rfl) (by kernel_rfl) (by kernel_rfl)
theorem witness (os : Os) {H : Type} (enc : TypeId × Value → H) : ∃ places, DataW.whole enc Tryz.prog ((lawWorld os).forCall (fun _ _ => 0) ⟨#[], vals, []⟩).memory Tryz.f5.params.toList Rows.wholePowersSpec.vars false vals.toList 8 = some ([.lit (.string []), .lit (.int .i64 0), .agg [.lit (.bool false), .nil, .lit (.int .u8 0)], .lit (.int .u8 0)], [], places) :=
  ⟨[], by kernel_rfl⟩
theorem tabs {W : World} (h : laidMetH Tryz.prog Rows.wholePowersRow.laid W) : Tabs (lawBase W) := by
  have hL : laidMet Tryz.prog Rows.wholePowersRow.laid W := h
  exact fun w hw => pow_tab (laidMet.tail (laidMet.tail hL)) w hw

theorem lifted (os : Os) (started : os.Started) (H : Type) (enc : TypeId × Value → H) (F : Stop.Interp) :
    ReturnsInHanded {} Tryz.checked os 5 .any ((OpenSpec.ofChange Rows.wholePowersSpec).preRow enc Tryz.prog Tryz.f5 Rows.wholePowersRow.domain false Rows.wholePowersRow.laid) (((OpenSpec.ofChange Rows.wholePowersSpec).at F).post enc Tryz.prog Tryz.f5 false true false false) := by
  obtain ⟨places, hx⟩ := witness os enc
  refine returnsInHanded_of_row (C := Tryz.checked) (s := OpenSpec.ofChange Rows.wholePowersSpec) own started (by kernel_rfl) Tryz.func5
    (witness_row_at (enc := enc) (C := Tryz.checked) false (lawWorld os) vals rfl (by kernel_rfl) (by kernel_rfl) (by kernel_rfl)
      (OpenSpec.preRow_of_cond 8 hx (by kernel_rfl) (fun k hk => by cases hk) (by kernel_rfl) (met os))) ?_
  intro W base args ds gs before hval hW _ _ _ hL _ _
  exact row_contract (ts := tys) (con := cLWW) reads rets bools spec (fun x h => by obtain ⟨x0, x1, x2, x3, ⟨⟩⟩ := x; obtain ⟨h0, h1, h2, h3, -⟩ := h; exact ⟨_, rfl, ⟨i64_of h1, dok_of h2, (u8_of h3).1, (u8_of h3).2⟩⟩) (valid329 (tabs hL)) hval hW

theorem said : Rows.WholePowersSaid :=
  OpenClaim.holds_of_cond 5 Tryz.f5 rfl rfl rfl rfl rfl rfl rfl ⟨rfl, rfl, rfl, rfl, rfl⟩ rfl rfl rfl rfl rfl (by kernel_rfl) Tryz.func5 (by kernel_rfl)
    (of_decide_eq_true (by kernel_rfl)) (by unfold Func.isWrapper; first | (rw [if_pos (by decide +kernel)]; kernel_rfl) | (rw [if_neg (by decide +kernel)]; exact ⟨rfl, rfl⟩))
    (fun os started H enc _ F => by rw [OpenClaim.pre_eq_preRow]; exact lifted os started H enc F)

theorem plain (f : FuncId) (fn : Func) (hf : Tryz.pinned.checked.prog.funcNamed "croupier/croupierlaw01.WholePowers" = some f) (hfn : Tryz.pinned.checked.prog.funcs[f]? = some fn) :
    true = Tryz.pinned.checked.prog.looks [] ∧ ∀ (j : Nat) t, fn.params[j]? = some t → Tryz.pinned.checked.prog.wantsStandIn t = false := by
  obtain rfl : f = 5 := Option.some.inj ((show Tryz.prog.funcNamed "croupier/croupierlaw01.WholePowers" = some 5 by kernel_rfl).symm.trans hf) |>.symm
  obtain rfl : fn = Tryz.f5 := (Option.some.inj (Tryz.func5.symm.trans hfn)).symm
  refine ⟨by kernel_rfl, fun j t ht => ?_⟩
  have hall : Tryz.f5.params.toList.all (fun t => !Tryz.prog.wantsStandIn t) = true := by kernel_rfl
  have := List.all_eq_true.1 hall t (by simpa using Array.mem_of_getElem? ht)
  exact (by simpa using this : Tryz.prog.wantsStandIn t = false)

theorem card : Rows.WholePowersCardSaid :=
  Claim7.holds_tied_plain_at .later [] _ _ _ _ said (fun _ h => by cases h) (by kernel_rfl) (fun _ h => by cases h) wholePowers_row_tie rfl ⟨rfl, rfl⟩ (by kernel_rfl) rfl plain (by kernel_rfl)

end Go.Proofs.YtkgbdpmhdplddaaGreatDoor.wholePowers
end
