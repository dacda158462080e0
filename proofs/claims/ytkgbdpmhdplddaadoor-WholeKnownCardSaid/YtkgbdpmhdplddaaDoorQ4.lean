/- Merged by a program out of several texts. -/
import Derived.Test.YtkgbdpmhdplddaaDoorQ2
import Derived.Test.YtkgbdpmhdplddaaDoorProg
import Derived.Shelf.Abstract
import Derived.RangeFuncBox
import Derived.WalkKit
import Derived.OwnWalkIn
import Derived.TacticsInMore
import Derived.LoopNIn
import Derived.LoopIn
import Derived.Test.YtkgbdpmhdplddaaDoorQ3
set_option linter.all false
set_option linter.unusedSimpArgs false
set_option linter.unusedVariables false

section
/- The library's iterator from the last element of a slice to the first: its contract. -/
namespace Go.Proofs
open Go.RowKit Go.Cm Go.Shelf

attribute [local go_sem] Oper.semAt_some

def backItem (xs : List Int) (k : Nat) : List LV := [.z (.int .i64) ((xs.length : Int) - 1 - k), .z (.int .u32) (xs.getD (xs.length - 1 - k) 0)]
def backItems (xs : List Int) : List (List LV) := (List.range xs.length).map (backItem xs)

def KpB (b1 b2 : Nat) (A B : World) : Prop := ∀ b, (b = b1 ∨ b = b2) → B.heap[b]? = A.heap[b]?

set_option maxRecDepth 100000 in
set_option maxHeartbeats 2000000 in
theorem back_in (F : Fence) (h7 : F.fn 74) (hro : F.round = none) (l Bs oB b off len cap : Nat) (xs : List Int) (hlen : xs.length = len) (hbig : len ≤ maxLen) (J : Nat → World → Prop) (Jx : World → Prop) (Kp : World → World → Prop)
    (W : World) (hBs : W.cell? ⟨Bs, oB, none⟩ = some (.slice (some ⟨b, off, none⟩) len cap)) (hc : ∀ j, j < len → W.cell? ⟨b, off + j, none⟩ = some (.int .u32 (xs.getD j 0)))
    (hKp : ∀ A B, Kp A B → (∃ o : Obj, A.heap[Bs]? = some o ∧ o.isCells = true) → ((0 < len) → ∃ o : Obj, A.heap[b]? = some o ∧ o.isCells = true) → B.heap[Bs]? = A.heap[Bs]? ∧ (0 < len → B.heap[b]? = A.heap[b]?))
    (hY : ∀ k W1, J k W1 → k < len → YieldAt F 0 Tryd.prog l #[.int .i64 ((len : Int) - 1 - k), .int .u32 (xs.getD (len - 1 - k) 0)] W1 fun e W' => (e = .returned (.bool true) ∧ J (k + 1) W' ∧ Kp W1 W') ∨ (e = .returned (.bool false) ∧ Jx W'))
    (h0 : J 0 W) :
    CallsIn F 1 Tryd.prog 74 #[.func (.yield l) #[] #[], .pointer (some ⟨Bs, oB, none⟩)] W fun e W' => (∃ v, e = .returned v) ∧ (J len W' ∨ Jx W') := by
  unfold maxLen at hbig
  refine callsIn_of_wp Tryd.func74 rfl h7 ?_ hro
  simp only [Tryd.ntmps74, List.size_toArray, List.length_cons, List.length_nil, Nat.reduceAdd, Nat.reduceSub, Array.replicate_succ, Array.replicate_zero, List.push_toArray, List.append_toArray, List.nil_append, List.cons_append]
  gi_wp2
  gi_loopw [3] (fun i wr => ∃ k : Nat, k ≤ len ∧ i = .int .i64 ((len : Int) - 1 - k) ∧ J k wr ∧ wr.heap[Bs]? = W.heap[Bs]? ∧ (0 < len → wr.heap[b]? = W.heap[b]?))
    (fun i _ => (intOf i + 1).toNat)
  case atStart => exact ⟨0, Nat.zero_le _, by simp, h0, rfl, fun _ => rfl⟩
  case round =>
    obtain ⟨k, hk, rfl, hJs, hn1, hn2⟩ := hrel
    have hB1 : wr.cell? ⟨Bs, oB, none⟩ = some (.slice (some ⟨b, off, none⟩) len cap) := (World.cell?_of_block (a := ⟨Bs, oB, none⟩) hn1).trans hBs
    by_cases hlt : k < len
    · have hge : 0 ≤ (len : Int) - 1 - k := by omega
      have htn : ((len : Int) - 1 - k).toNat = len - 1 - k := by omega
      have hup : (len : Int) - 1 - k < len := by omega
      have hcx : wr.cell? ⟨b, off + (len - 1 - k), none⟩ = some (.int .u32 (xs.getD (len - 1 - k) 0)) := (World.cell?_of_block (a := ⟨b, off + (len - 1 - k), none⟩) (hn2 (by omega))).trans (hc _ (by omega))
      have hcB : ∃ o : Obj, wr.heap[Bs]? = some o ∧ o.isCells = true := cells_of_cell hB1
      have hcb : ∃ o : Obj, wr.heap[b]? = some o ∧ o.isCells = true := cells_of_cell hcx
      obtain ⟨fn, tmps, assign, body, hy, hR⟩ := hY k wr hJs hlt
      generalize xs.getD (len - 1 - k) 0 = x at *
      gi_wp2
      refine hR.mono ?_
      rintro e W3 (⟨rfl, hJ3, hk3⟩ | ⟨rfl, hJx3⟩)
      · obtain ⟨e1, e2⟩ := hKp _ _ hk3 hcB (fun _ => hcb)
        gi_wp2
        go_roundw
        case rel => exact ⟨k + 1, by omega, by congr 1; omega, hJ3, e1.trans hn1, fun h => (e2 h).trans (hn2 h)⟩
        case measure => simp [intOf]; omega
      · gi_wp2
        refine bodyPost_ret (results_none rfl _ _ _) rfl ?_
        exact ⟨⟨_, rfl⟩, .inr hJx3⟩
    · have hk2 : k = len := by omega
      have hng : ¬ 0 ≤ (len : Int) - 1 - k := by omega
      rw [hk2] at hJs
      clear hk2
      gi_wp2
      go_end0
      exact ⟨⟨_, rfl⟩, .inl hJs⟩

set_option maxRecDepth 100000 in
set_option maxHeartbeats 2000000 in
theorem back_nil (F : Fence) (h7 : F.fn 74) (hro : F.round = none) (l Bs oB : Nat) (J : World → Prop) (W : World) (a : Option Addr) (cap : Nat) (hBs : W.cell? ⟨Bs, oB, none⟩ = some (.slice a 0 cap)) (h0 : J W) :
    CallsIn F 1 Tryd.prog 74 #[.func (.yield l) #[] #[], .pointer (some ⟨Bs, oB, none⟩)] W fun e W' => (∃ v, e = .returned v) ∧ J W' := by
  refine callsIn_of_wp Tryd.func74 rfl h7 ?_ hro
  simp only [Tryd.ntmps74, List.size_toArray, List.length_cons, List.length_nil, Nat.reduceAdd, Nat.reduceSub, Array.replicate_succ, Array.replicate_zero, List.push_toArray, List.append_toArray, List.nil_append, List.cons_append]
  gi_wp2
  gi_loopw [3] (fun i wr => i = .int .i64 (-1) ∧ wr = W) (fun i _ => (intOf i + 1).toNat)
  case atStart => exact ⟨rfl, rfl⟩
  case round =>
    obtain ⟨rfl, rfl⟩ := hrel
    gi_wp2
    go_end0
    exact ⟨⟨_, rfl⟩, h0⟩

theorem cells_of_lies {H : Nat → Prop} {w : World} {b o : Nat} {c : Value} (h : LiesAt H w b o [c]) : w.cell? ⟨b, o, none⟩ = some c ∧ b < w.heap.size ∧ ¬ H b :=
  ⟨by have := h.2 0 (by simp); simpa using this, h.lt (by simp), h.1 (by simp)⟩

theorem seq_back (xs : List Int) : SeqValid Tryd.prog 74 2 [.z (.ptr (.slice (.int .u32))) xs] (backItems xs) := by
  refine ⟨enters_of Tryd.func74 (by kernel_rfl) rfl, ?_, ?_⟩
  · intro it hit
    obtain ⟨k, _, rfl⟩ := List.mem_map.1 hit
    exact ⟨rfl, rfl⟩
  · intro H w lb hH hcap
    obtain ⟨v, rfl⟩ : ∃ v, lb = [v] := by
      match lb, hcap with
      | [v], _ => exact ⟨v, rfl⟩
      | _ :: _ :: _, h => exact h.2.elim
    obtain ⟨hag, bB, oB, cells, hv, hsl, hlies⟩ := hcap.1
    have hv2 : v = .pointer (some ⟨bB, oB, none⟩) := by
      have hone := cells_one (v := v) (by cases v <;> first | rfl | (simp [Ty.isAgg] at hag))
      rw [hone] at hv; simpa using hv
    subst hv2
    refine ⟨fun k => #[.int .i64 ((xs.length : Int) - 1 - k), .int .u32 (xs.getD (xs.length - 1 - k) 0)], fun k hk => ?_, ?_⟩
    · simp only [backItems, List.getElem_map, List.getElem_range]
      exact ⟨rep_int (ρ := fun _ => undef), rep_int (ρ := fun _ => undef), trivial⟩
    · intro l J Jx W hb _ _ hY h0
      have hlen : (backItems xs).length = xs.length := by simp [backItems]
      rw [hlen] at hY ⊢
      rcases hsl with ⟨rfl, rfl⟩ | ⟨b, o, p, cap, cs, rfl, hp, h1, h2, h3, h4⟩
      · obtain ⟨c1, c2, c3⟩ := cells_of_lies hlies
        exact (back_nil (fw none) trivial rfl l bB oB (J 0) W none 0 ((hb.cell (p := ⟨bB, oB, none⟩) c2).trans c1) h0).mono (fun e W' h => ⟨h.1, .inl h.2⟩)
      · obtain ⟨c1, c2, c3⟩ := cells_of_lies hlies
        by_cases hnil : xs = []
        · subst hnil
          exact (back_nil (fw none) trivial rfl l bB oB (J 0) W (some ⟨b, o, p⟩) cap ((hb.cell (p := ⟨bB, oB, none⟩) c2).trans c1) h0).mono (fun e W' h => ⟨h.1, .inl h.2⟩)
        obtain rfl := hp hnil
        have hcs := rep_ints h3
        have hne : 0 < xs.length → cs ≠ [] := fun h e => by rw [hcs] at e; simp at e; subst e; simp at h
        refine back_in (fw none) trivial rfl l bB oB b o xs.length cap xs rfl (Nat.le_trans h1 h2) J Jx (KpOf H w.heap.size) W ((hb.cell (p := ⟨bB, oB, none⟩) c2).trans c1) (fun j hj => ?_) (fun A B hk hA1 hA2 => ⟨hk bB c2 c3 hA1, fun h => hk b (h4.lt (hne h)) (h4.1 (hne h)) (hA2 h)⟩) hY h0
        have hj' : j < cs.length := by rw [hcs]; simpa using hj
        rw [hb.cell (p := ⟨b, o + j, none⟩) (h4.lt (hne (by omega))), h4.2 j hj', hcs, List.getElem?_map, List.getElem?_eq_getElem hj]
        simp [List.getD_eq_getElem?_getD, List.getElem?_eq_getElem hj]

end Go.Proofs
end

section
/- The types of the program that are data. -/
namespace Go.Proofs.YtkgbdpmhdplddaaDoor
open Go Go.Cm Go.Proofs
set_option maxRecDepth 100000

theorem ty2 : TyOK Tryd.prog 2 (.int .i64) := ty_int (by kernel_rfl) (by kernel_rfl)
theorem ty3 : TyOK Tryd.prog 3 (.int .i64) := ty_int (by kernel_rfl) (by kernel_rfl)
theorem ty4 : TyOK Tryd.prog 4 .bool := ty_bool (by kernel_rfl) (by kernel_rfl)
theorem ty5 : TyOK Tryd.prog 5 (.int .u8) := ty_int (by kernel_rfl) (by kernel_rfl)
theorem ty9 : TyOK Tryd.prog 9 .str := ty_str (by kernel_rfl) (by kernel_rfl)
theorem ty21 : TyOK Tryd.prog 21 (.int .i32) := ty_int (by kernel_rfl) (by kernel_rfl)
theorem ty22 : TyOK Tryd.prog 22 (.slice (.int .u8)) := ty_slice (E := 5) (by kernel_rfl) (by kernel_rfl) (by kernel_rfl) (by kernel_rfl) (.inr rfl)
theorem ty24 : TyOK Tryd.prog 24 (.st (.pair .bool (.pair (.slice (.int .u8)) (.int .u8)))) := ty_st (by kernel_rfl) (by kernel_rfl)
theorem ty27 : TyOK Tryd.prog 27 (.int .i64) := ty_int (by kernel_rfl) (by kernel_rfl)
theorem ty39 : TyOK Tryd.prog 39 (.arr 3 (.int .i64)) := ty_arr (E := 3) (by kernel_rfl) (by kernel_rfl) (by kernel_rfl) (by kernel_rfl) (.inr rfl)
theorem ty48 : TyOK Tryd.prog 48 (.arr 5 .str) := ty_arr (E := 9) (by kernel_rfl) (by kernel_rfl) (by kernel_rfl) (by kernel_rfl) (.inr rfl)
theorem ty53 : TyOK Tryd.prog 53 (.slice (.int .u32)) := ty_slice (E := 82) (by kernel_rfl) (by kernel_rfl) (by kernel_rfl) (by kernel_rfl) (.inr rfl)
theorem ty55 : TyOK Tryd.prog 55 (.st (.pair .bool (.slice (.int .u32)))) := ty_st (by kernel_rfl) (by kernel_rfl)
theorem ty56 : TyOK Tryd.prog 56 (.slice (.st (.pair .bool (.slice (.int .u32))))) := ty_slice (E := 55) (by kernel_rfl) (by kernel_rfl) (by kernel_rfl) (by kernel_rfl) (.inl rfl)
theorem ty82 : TyOK Tryd.prog 82 (.int .u32) := ty_int (by kernel_rfl) (by kernel_rfl)
theorem ty83 : TyOK Tryd.prog 83 (.int .u64) := ty_int (by kernel_rfl) (by kernel_rfl)
theorem ty85 : TyOK Tryd.prog 85 (.slice .str) := ty_slice (E := 9) (by kernel_rfl) (by kernel_rfl) (by kernel_rfl) (by kernel_rfl) (.inr rfl)

end Go.Proofs.YtkgbdpmhdplddaaDoor
end

section
/- The functions of the package exact, one after the other: each meets its contract. -/
set_option linter.unusedSimpArgs false
set_option linter.unusedVariables false
set_option maxRecDepth 100000
namespace Go.Proofs.YtkgbdpmhdplddaaDoor
open Go Go.Cm Go.Proofs

def tab9 (B : Base) : Tab := { types := [(3, (.int .i64)), (4, .bool), (5, (.int .u8)), (9, .str), (22, (.slice (.int .u8))), (24, (.st (.pair .bool (.pair (.slice (.int .u8)) (.int .u8)))))], elems := [(22, 5)], cons := [], hint := [], N := 54, base := B }
theorem good9 {B : Base} (hB : Tabs B) : MGood Tryd.prog (tab9 B) := ⟨⟨types_cons ty3 (types_cons ty4 (types_cons ty5 (types_cons ty9 (types_cons ty22 (types_cons ty24 (types_nil)))))), elems_cons (by kernel_rfl) (elems_nil), by simp only [tab9, ioB]; omega⟩, cons_nil rfl, by kernel_rfl⟩
def cDraft : Con := fun l os => match l, os with
  | [.z (.st (.pair .bool (.pair (.slice (.int .u8)) (.int .u8)))) d], [] => some (DOK d, [.z .str (dtext d)], [])
  | _, _ => none

theorem valid9 {B : Base} (hB : Tabs B) : Valid B Tryd.prog 9 cDraft := by
  refine valid_of_J (T := tab9 B) (good9 hB).tab Tryd.func9 rfl rfl rfl ?_
  intro args os C rs os' hc hC
  unfold cDraft at hc
  split at hc
  case h_2 => cases hc
  rename_i d
  cases hc
  refine ⟨by simp only [List.length_cons, List.length_nil, tab9]; omega, rfl, ?_⟩
  intro X hP hT hr
  have hG : MGood X.P X.T := by rw [hP, hT]; exact good9 hB
  simp only [Tryd.f9, argEnv, ioList, ioB]
  refine r_seq ?_
  refine r_region hG (by simp only [hT, tab9, mx0, mx1, mx2, mx3, mx4, mx5, effOp, endCall, callOp, appendOp, sliceLV, Ty.fieldTy, Ty.fieldOf, Nat.reduceLT, Nat.reduceEqDiff, Nat.reduceAdd, Nat.reduceMul, Nat.reduceSub, Nat.reduceLeDiff, Nat.reduceBEq, Nat.reduceBNe, reduceIte, reduceDIte, reduceCtorEq]; rfl) ?_ ?_ -- R0
  · trivial
  refine k_seq ?_
  refine r_seq ?_
  refine r_region hG (by simp only [hT, tab9, mx0, mx1, mx2, mx3, mx4, mx5, effOp, endCall, callOp, appendOp, sliceLV, Ty.fieldTy, Ty.fieldOf, Nat.reduceLT, Nat.reduceEqDiff, Nat.reduceAdd, Nat.reduceMul, Nat.reduceSub, Nat.reduceLeDiff, Nat.reduceBEq, Nat.reduceBNe, reduceIte, reduceDIte, reduceCtorEq]; rfl) ?_ ?_ -- R1
  · trivial
  refine k_seq ?_
  refine r_seq ?_
  refine r_seq ?_
  refine r_region hG (by simp only [hT, tab9, mx0, mx1, mx2, mx3, mx4, mx5, effOp, endCall, callOp, appendOp, sliceLV, Ty.fieldTy, Ty.fieldOf, Nat.reduceLT, Nat.reduceEqDiff, Nat.reduceAdd, Nat.reduceMul, Nat.reduceSub, Nat.reduceLeDiff, Nat.reduceBEq, Nat.reduceBNe, reduceIte, reduceDIte, reduceCtorEq]; rfl) ?_ ?_ -- R2
  · trivial
  refine k_seq ?_
  refine j_block ?_
  refine j_loop (fun (z : Nat) => (⟨[(1, .l (.z (.ptr (.st (.pair .bool (.pair (.slice (.int .u8)) (.int .u8))))) d)), (3, .l (.z .str (dpasses d.2.1 z))), (4, .l (.z (.int .i64) (z : Int)))], []⟩ : AState)) (fun z => z ≤ (d.2.2 % 8).toNat + 1) (fun z => (d.2.2 % 8).toNat + 1 - z) 0 ?_ ?_ ?_
  · simp only [ml0, ml1, Nat.reduceLT, Nat.reduceEqDiff, Nat.reduceAdd, Nat.reduceMul, Nat.reduceSub, Nat.reduceLeDiff, Nat.reduceBEq, Nat.reduceBNe, reduceIte, reduceDIte, reduceCtorEq]
    exact ⟨rfl, rfl⟩
  · omega
  · rintro k hk
    try dsimp only at hk
    refine r_seq ?_
    refine r_seq ?_
    refine r_region hG (by simp only [hT, tab9, mx0, mx1, mx2, mx3, mx4, mx5, effOp, endCall, callOp, appendOp, sliceLV, Ty.fieldTy, Ty.fieldOf, Nat.reduceLT, Nat.reduceEqDiff, Nat.reduceAdd, Nat.reduceMul, Nat.reduceSub, Nat.reduceLeDiff, Nat.reduceBEq, Nat.reduceBNe, reduceIte, reduceDIte, reduceCtorEq]; rfl) ?_ ?_ -- R3
    · try simp only [and_true, true_and]
      decide
    refine k_seq ?_
    refine r_cond (by simp only [hT, tab9, mx0, mx1, mx2, mx3, mx4, mx5, effOp, endCall, callOp, appendOp, sliceLV, Ty.fieldTy, Ty.fieldOf, Nat.reduceLT, Nat.reduceEqDiff, Nat.reduceAdd, Nat.reduceMul, Nat.reduceSub, Nat.reduceLeDiff, Nat.reduceBEq, Nat.reduceBNe, reduceIte, reduceDIte, reduceCtorEq]; rfl) ?_ ?_
    · intro hb0
      try simp only [decide_eq_true_eq, decide_eq_false_iff_not, beq_iff_eq, bne_iff_ne, Bool.not_eq_true', Bool.and_eq_true] at hb0
      refine r_skip ?_
      refine k_seq ?_
      refine r_seq ?_
      refine j_block ?_
      refine r_seq ?_
      refine r_region hG (by simp only [hT, tab9, mx0, mx1, mx2, mx3, mx4, mx5, effOp, endCall, callOp, appendOp, sliceLV, Ty.fieldTy, Ty.fieldOf, Nat.reduceLT, Nat.reduceEqDiff, Nat.reduceAdd, Nat.reduceMul, Nat.reduceSub, Nat.reduceLeDiff, Nat.reduceBEq, Nat.reduceBNe, reduceIte, reduceDIte, reduceCtorEq]; rfl) ?_ ?_ -- R5
      · trivial
      refine k_seq ?_
      refine j_block ?_
      refine j_loop (fun (z : Nat × List UInt8) => (⟨[(1, .l (.z (.ptr (.st (.pair .bool (.pair (.slice (.int .u8)) (.int .u8))))) d)), (3, .l (.z .str z.2)), (4, .l (.z (.int .i64) (k : Int))), (5, .l (.z (.int .i64) (z.1 : Int)))], []⟩ : AState)) (fun z => InPhi d.2.1 (dpasses d.2.1 k) z.1 z.2) (fun z => 30 - z.1) (0, dpasses d.2.1 k) ?_ ?_ ?_
      · simp only [ml0, ml1, Nat.reduceLT, Nat.reduceEqDiff, Nat.reduceAdd, Nat.reduceMul, Nat.reduceSub, Nat.reduceLeDiff, Nat.reduceBEq, Nat.reduceBNe, reduceIte, reduceDIte, reduceCtorEq]
        rfl
      · exact ⟨Nat.zero_le _, Nat.zero_le _, rfl⟩
      · rintro ⟨i, s⟩ hi
        try dsimp only at hi
        refine r_seq ?_
        refine r_seq ?_
        refine r_region hG (by simp only [hT, tab9, mx0, mx1, mx2, mx3, mx4, mx5, effOp, endCall, callOp, appendOp, sliceLV, Ty.fieldTy, Ty.fieldOf, Nat.reduceLT, Nat.reduceEqDiff, Nat.reduceAdd, Nat.reduceMul, Nat.reduceSub, Nat.reduceLeDiff, Nat.reduceBEq, Nat.reduceBNe, reduceIte, reduceDIte, reduceCtorEq]; rfl) ?_ ?_ -- R6
        · try simp only [and_true, true_and]
          exact fun h => h
        refine k_seq ?_
        refine r_cond (by simp only [hT, tab9, mx0, mx1, mx2, mx3, mx4, mx5, effOp, endCall, callOp, appendOp, sliceLV, Ty.fieldTy, Ty.fieldOf, Nat.reduceLT, Nat.reduceEqDiff, Nat.reduceAdd, Nat.reduceMul, Nat.reduceSub, Nat.reduceLeDiff, Nat.reduceBEq, Nat.reduceBNe, reduceIte, reduceDIte, reduceCtorEq]; rfl) ?_ ?_
        · intro hb1
          try simp only [decide_eq_true_eq, decide_eq_false_iff_not, beq_iff_eq, bne_iff_ne, Bool.not_eq_true', Bool.and_eq_true] at hb1
          refine r_skip ?_
          refine k_seq ?_
          refine r_seq ?_
          refine j_block ?_
          refine r_seq ?_
          refine r_region hG (by simp only [hT, tab9, mx0, mx1, mx2, mx3, mx4, mx5, effOp, endCall, callOp, appendOp, sliceLV, Ty.fieldTy, Ty.fieldOf, Nat.reduceLT, Nat.reduceEqDiff, Nat.reduceAdd, Nat.reduceMul, Nat.reduceSub, Nat.reduceLeDiff, Nat.reduceBEq, Nat.reduceBNe, reduceIte, reduceDIte, reduceCtorEq]; rfl) ?_ ?_ -- R8
          · try simp only [and_true, true_and]
            exact ⟨fun h => h, fun h => ⟨h, by omega, hb1.1⟩, fun h => h, fun h => ⟨h, by decide⟩, fun h => h, fun h => by have h2 : (s != []) = !(s == []) := rfl; simp_all⟩
          refine k_seq ?_
          refine r_cond (by simp only [hT, tab9, mx0, mx1, mx2, mx3, mx4, mx5, effOp, endCall, callOp, appendOp, sliceLV, Ty.fieldTy, Ty.fieldOf, Nat.reduceLT, Nat.reduceEqDiff, Nat.reduceAdd, Nat.reduceMul, Nat.reduceSub, Nat.reduceLeDiff, Nat.reduceBEq, Nat.reduceBNe, reduceIte, reduceDIte, reduceCtorEq]; rfl) ?_ ?_
          · intro hb2
            try simp only [decide_eq_true_eq, decide_eq_false_iff_not, beq_iff_eq, bne_iff_ne, Bool.not_eq_true', Bool.and_eq_true] at hb2
            refine r_region hG (by simp only [hT, tab9, mx0, mx1, mx2, mx3, mx4, mx5, effOp, endCall, callOp, appendOp, sliceLV, Ty.fieldTy, Ty.fieldOf, Nat.reduceLT, Nat.reduceEqDiff, Nat.reduceAdd, Nat.reduceMul, Nat.reduceSub, Nat.reduceLeDiff, Nat.reduceBEq, Nat.reduceBNe, reduceIte, reduceDIte, reduceCtorEq]; rfl) ?_ ?_ -- R9
            · try simp only [and_true, true_and]
              have hl := in_len hC hk hi
              exact ⟨⟨by omega, hb1.1⟩, by decide, by have h1 : (strOf [IntKind.u8.wrap (48 + Int.tmod (nth (Ty.int IntKind.u8) d.2.1 (i : Int)) 10)]).length = 1 := rfl; rw [h1]; have h2 : 1000 ≤ maxLen := (by decide); omega⟩
            refine k_block ?_
            refine k_seq ?_
            refine r_region hG (by simp only [hT, tab9, mx0, mx1, mx2, mx3, mx4, mx5, effOp, endCall, callOp, appendOp, sliceLV, Ty.fieldTy, Ty.fieldOf, Nat.reduceLT, Nat.reduceEqDiff, Nat.reduceAdd, Nat.reduceMul, Nat.reduceSub, Nat.reduceLeDiff, Nat.reduceBEq, Nat.reduceBNe, reduceIte, reduceDIte, reduceCtorEq]; rfl) ?_ ?_ -- R7
            · trivial
            show ∃ z, _
            simp only [ml0, ml1, Nat.reduceLT, Nat.reduceEqDiff, Nat.reduceAdd, Nat.reduceMul, Nat.reduceSub, Nat.reduceLeDiff, Nat.reduceBEq, Nat.reduceBNe, reduceIte, reduceDIte, reduceCtorEq]
            first | exact in_true hC hi hb1 hb2 | exact in_false hC hi hb1 hb2
          · intro hb2
            try simp only [decide_eq_true_eq, decide_eq_false_iff_not, beq_eq_false_iff_ne, bne_eq_false_iff_eq, Bool.not_eq_false', Bool.and_eq_false_imp] at hb2
            refine r_skip ?_
            refine k_block ?_
            refine k_seq ?_
            refine r_region hG (by simp only [hT, tab9, mx0, mx1, mx2, mx3, mx4, mx5, effOp, endCall, callOp, appendOp, sliceLV, Ty.fieldTy, Ty.fieldOf, Nat.reduceLT, Nat.reduceEqDiff, Nat.reduceAdd, Nat.reduceMul, Nat.reduceSub, Nat.reduceLeDiff, Nat.reduceBEq, Nat.reduceBNe, reduceIte, reduceDIte, reduceCtorEq]; rfl) ?_ ?_ -- R7
            · trivial
            show ∃ z, _
            simp only [ml0, ml1, Nat.reduceLT, Nat.reduceEqDiff, Nat.reduceAdd, Nat.reduceMul, Nat.reduceSub, Nat.reduceLeDiff, Nat.reduceBEq, Nat.reduceBNe, reduceIte, reduceDIte, reduceCtorEq]
            first | exact in_true hC hi hb1 hb2 | exact in_false hC hi hb1 hb2
        · intro hb1
          try simp only [decide_eq_true_eq, decide_eq_false_iff_not, beq_eq_false_iff_ne, bne_eq_false_iff_eq, Bool.not_eq_false', Bool.and_eq_false_imp] at hb1
          refine r_exit ?_
          refine k_seq_exit ?_
          refine k_round_exit ?_
          refine k_block_exit ?_
          refine k_block ?_
          refine k_seq ?_
          refine r_region hG (by simp only [hT, tab9, mx0, mx1, mx2, mx3, mx4, mx5, effOp, endCall, callOp, appendOp, sliceLV, Ty.fieldTy, Ty.fieldOf, Nat.reduceLT, Nat.reduceEqDiff, Nat.reduceAdd, Nat.reduceMul, Nat.reduceSub, Nat.reduceLeDiff, Nat.reduceBEq, Nat.reduceBNe, reduceIte, reduceDIte, reduceCtorEq]; rfl) ?_ ?_ -- R4
          · trivial
          show ∃ z, _
          simp only [ml0, ml1, Nat.reduceLT, Nat.reduceEqDiff, Nat.reduceAdd, Nat.reduceMul, Nat.reduceSub, Nat.reduceLeDiff, Nat.reduceBEq, Nat.reduceBNe, reduceIte, reduceDIte, reduceCtorEq]
          exact out_next hC hk hb0 hi hb1
    · intro hb0
      try simp only [decide_eq_true_eq, decide_eq_false_iff_not, beq_eq_false_iff_ne, bne_eq_false_iff_eq, Bool.not_eq_false', Bool.and_eq_false_imp] at hb0
      refine r_exit ?_
      refine k_seq_exit ?_
      refine k_round_exit ?_
      refine k_block_exit ?_
      refine k_seq ?_
      refine r_seq ?_
      refine r_seq ?_
      refine r_region hG (by simp only [hT, tab9, mx0, mx1, mx2, mx3, mx4, mx5, effOp, endCall, callOp, appendOp, sliceLV, Ty.fieldTy, Ty.fieldOf, Nat.reduceLT, Nat.reduceEqDiff, Nat.reduceAdd, Nat.reduceMul, Nat.reduceSub, Nat.reduceLeDiff, Nat.reduceBEq, Nat.reduceBNe, reduceIte, reduceDIte, reduceCtorEq]; rfl) ?_ ?_ -- R10
      · trivial
      refine k_seq ?_
      refine r_cond (by simp only [hT, tab9, mx0, mx1, mx2, mx3, mx4, mx5, effOp, endCall, callOp, appendOp, sliceLV, Ty.fieldTy, Ty.fieldOf, Nat.reduceLT, Nat.reduceEqDiff, Nat.reduceAdd, Nat.reduceMul, Nat.reduceSub, Nat.reduceLeDiff, Nat.reduceBEq, Nat.reduceBNe, reduceIte, reduceDIte, reduceCtorEq]; rfl) ?_ ?_
      · intro hb3
        try simp only [decide_eq_true_eq, decide_eq_false_iff_not, beq_iff_eq, bne_iff_ne, Bool.not_eq_true', Bool.and_eq_true] at hb3
        refine r_seq ?_
        refine r_region hG (by simp only [hT, tab9, mx0, mx1, mx2, mx3, mx4, mx5, effOp, endCall, callOp, appendOp, sliceLV, Ty.fieldTy, Ty.fieldOf, Nat.reduceLT, Nat.reduceEqDiff, Nat.reduceAdd, Nat.reduceMul, Nat.reduceSub, Nat.reduceLeDiff, Nat.reduceBEq, Nat.reduceBNe, reduceIte, reduceDIte, reduceCtorEq]; rfl) ?_ ?_ -- R11
        · trivial
        refine k_seq ?_
        refine r_ret ?_
        refine k_seq_ret ?_
        refine ⟨[], ?_⟩
        simp only [hT, tab9, mr0, mr1, mr2, Nat.reduceLT, Nat.reduceEqDiff, Nat.reduceAdd, Nat.reduceMul, Nat.reduceSub, Nat.reduceLeDiff, Nat.reduceBEq, Nat.reduceBNe, reduceIte, reduceDIte, reduceCtorEq]
        rw [out_end hC hk hb0] at hb3
        unfold dtext
        rw [if_pos hb3]
      · intro hb3
        try simp only [decide_eq_true_eq, decide_eq_false_iff_not, beq_eq_false_iff_ne, bne_eq_false_iff_eq, Bool.not_eq_false', Bool.and_eq_false_imp] at hb3
        refine r_skip ?_
        refine k_seq ?_
        refine r_seq ?_
        refine r_seq ?_
        refine r_region hG (by simp only [hT, tab9, mx0, mx1, mx2, mx3, mx4, mx5, effOp, endCall, callOp, appendOp, sliceLV, Ty.fieldTy, Ty.fieldOf, Nat.reduceLT, Nat.reduceEqDiff, Nat.reduceAdd, Nat.reduceMul, Nat.reduceSub, Nat.reduceLeDiff, Nat.reduceBEq, Nat.reduceBNe, reduceIte, reduceDIte, reduceCtorEq]; rfl) ?_ ?_ -- R12
        · trivial
        refine k_seq ?_
        refine r_cond (by simp only [hT, tab9, mx0, mx1, mx2, mx3, mx4, mx5, effOp, endCall, callOp, appendOp, sliceLV, Ty.fieldTy, Ty.fieldOf, Nat.reduceLT, Nat.reduceEqDiff, Nat.reduceAdd, Nat.reduceMul, Nat.reduceSub, Nat.reduceLeDiff, Nat.reduceBEq, Nat.reduceBNe, reduceIte, reduceDIte, reduceCtorEq]; rfl) ?_ ?_
        · intro hb4
          try simp only [decide_eq_true_eq, decide_eq_false_iff_not, beq_iff_eq, bne_iff_ne, Bool.not_eq_true', Bool.and_eq_true] at hb4
          refine r_seq ?_
          refine r_region hG (by simp only [hT, tab9, mx0, mx1, mx2, mx3, mx4, mx5, effOp, endCall, callOp, appendOp, sliceLV, Ty.fieldTy, Ty.fieldOf, Nat.reduceLT, Nat.reduceEqDiff, Nat.reduceAdd, Nat.reduceMul, Nat.reduceSub, Nat.reduceLeDiff, Nat.reduceBEq, Nat.reduceBNe, reduceIte, reduceDIte, reduceCtorEq]; rfl) ?_ ?_ -- R13
          · try simp only [and_true, true_and]
            rw [out_end hC hk hb0]
            have := dmag_len hC
            have h2 : 1000 ≤ maxLen := by decide
            omega
          refine k_seq ?_
          refine r_ret ?_
          refine k_seq_ret ?_
          refine ⟨[], ?_⟩
          simp only [hT, tab9, mr0, mr1, mr2, Nat.reduceLT, Nat.reduceEqDiff, Nat.reduceAdd, Nat.reduceMul, Nat.reduceSub, Nat.reduceLeDiff, Nat.reduceBEq, Nat.reduceBNe, reduceIte, reduceDIte, reduceCtorEq]
          rw [out_end hC hk hb0] at hb3 ⊢
          unfold dtext
          rw [if_neg hb3, if_pos hb4]
        · intro hb4
          try simp only [decide_eq_true_eq, decide_eq_false_iff_not, beq_eq_false_iff_ne, bne_eq_false_iff_eq, Bool.not_eq_false', Bool.and_eq_false_imp] at hb4
          refine r_skip ?_
          refine k_seq ?_
          refine r_seq ?_
          refine r_region hG (by simp only [hT, tab9, mx0, mx1, mx2, mx3, mx4, mx5, effOp, endCall, callOp, appendOp, sliceLV, Ty.fieldTy, Ty.fieldOf, Nat.reduceLT, Nat.reduceEqDiff, Nat.reduceAdd, Nat.reduceMul, Nat.reduceSub, Nat.reduceLeDiff, Nat.reduceBEq, Nat.reduceBNe, reduceIte, reduceDIte, reduceCtorEq]; rfl) ?_ ?_ -- R14
          · trivial
          refine k_seq ?_
          refine r_ret ?_
          refine ⟨[], ?_⟩
          simp only [hT, tab9, mr0, mr1, mr2, Nat.reduceLT, Nat.reduceEqDiff, Nat.reduceAdd, Nat.reduceMul, Nat.reduceSub, Nat.reduceLeDiff, Nat.reduceBEq, Nat.reduceBNe, reduceIte, reduceDIte, reduceCtorEq]
          rw [out_end hC hk hb0] at hb3 ⊢
          unfold dtext
          rw [if_neg hb3, if_neg (by rw [hb4]; decide)]

end Go.Proofs.YtkgbdpmhdplddaaDoor
end

section
/- The functions of the package exact, one after the other: each meets its contract. -/
set_option linter.unusedSimpArgs false
set_option linter.unusedVariables false
set_option maxRecDepth 100000
namespace Go.Proofs.YtkgbdpmhdplddaaDoor
open Go Go.Cm Go.Proofs

def tab50 (B : Base) : Tab := { types := [(3, (.int .i64)), (53, (.slice (.int .u32))), (82, (.int .u32))], elems := [(53, 82)], cons := [], hint := [], N := 56, base := B }
theorem good50 {B : Base} (hB : Tabs B) : MGood Tryd.prog (tab50 B) := ⟨⟨types_cons ty3 (types_cons ty53 (types_cons ty82 (types_nil))), elems_cons (by kernel_rfl) (elems_nil), by simp only [tab50, ioB]; omega⟩, cons_nil rfl, by kernel_rfl⟩
def cPlus : Con := fun l os => match l, os with
  | [.z (.slice (.int .u32)) m, .z (.slice (.int .u32)) o], [] => some (Cano m ∧ Cano o ∧ m.length + o.length < CAP, [.z (.slice (.int .u32)) (limbs (valL m + valL o).toNat)], [])
  | _, _ => none

theorem valid50 {B : Base} (hB : Tabs B) : Valid B Tryd.prog 50 cPlus := by
  refine valid_of_J (T := tab50 B) (good50 hB).tab Tryd.func50 rfl rfl rfl ?_
  intro args os C rs os' hc hC
  unfold cPlus at hc
  split at hc
  case h_2 => cases hc
  rename_i m o
  cases hc
  refine ⟨by simp only [List.length_cons, List.length_nil, tab50]; omega, rfl, ?_⟩
  intro X hP hT hr
  have hG : MGood X.P X.T := by rw [hP, hT]; exact good50 hB
  simp only [Tryd.f50, argEnv, ioList, ioB]
  refine r_seq ?_
  refine r_region hG (by simp only [hT, tab50, mx0, mx1, mx2, mx3, mx4, mx5, effOp, endCall, callOp, appendOp, sliceLV, Ty.fieldTy, Ty.fieldOf, Nat.reduceLT, Nat.reduceEqDiff, Nat.reduceAdd, Nat.reduceMul, Nat.reduceSub, Nat.reduceLeDiff, Nat.reduceBEq, Nat.reduceBNe, reduceIte, reduceDIte, reduceCtorEq]; rfl) ?_ ?_ -- R0
  · trivial
  refine k_seq ?_
  refine r_cut (fun (z : List Int × List Int) => (⟨[(0, .l (.z (.slice (.int .u32)) z.1)), (1, .l (.z (.slice (.int .u32)) z.2))], []⟩ : AState)) (fun z => Cano z.1 ∧ Cano z.2 ∧ z.2.length ≤ z.1.length ∧ z.1.length < CAP ∧ valL z.1 + valL z.2 = valL m + valL o) ?_ ?_
  · refine r_seq ?_
    refine r_region hG (by simp only [hT, tab50, mx0, mx1, mx2, mx3, mx4, mx5, effOp, endCall, callOp, appendOp, sliceLV, Ty.fieldTy, Ty.fieldOf, Nat.reduceLT, Nat.reduceEqDiff, Nat.reduceAdd, Nat.reduceMul, Nat.reduceSub, Nat.reduceLeDiff, Nat.reduceBEq, Nat.reduceBNe, reduceIte, reduceDIte, reduceCtorEq]; rfl) ?_ ?_ -- R1
    · trivial
    refine k_seq ?_
    refine r_cond (by simp only [hT, tab50, mx0, mx1, mx2, mx3, mx4, mx5, effOp, endCall, callOp, appendOp, sliceLV, Ty.fieldTy, Ty.fieldOf, Nat.reduceLT, Nat.reduceEqDiff, Nat.reduceAdd, Nat.reduceMul, Nat.reduceSub, Nat.reduceLeDiff, Nat.reduceBEq, Nat.reduceBNe, reduceIte, reduceDIte, reduceCtorEq]; rfl) ?_ ?_
    · intro hb0
      try simp only [decide_eq_true_eq, decide_eq_false_iff_not, beq_iff_eq, bne_iff_ne, Bool.not_eq_true', Bool.and_eq_true] at hb0
      refine r_region hG (by simp only [hT, tab50, mx0, mx1, mx2, mx3, mx4, mx5, effOp, endCall, callOp, appendOp, sliceLV, Ty.fieldTy, Ty.fieldOf, Nat.reduceLT, Nat.reduceEqDiff, Nat.reduceAdd, Nat.reduceMul, Nat.reduceSub, Nat.reduceLeDiff, Nat.reduceBEq, Nat.reduceBNe, reduceIte, reduceDIte, reduceCtorEq]; rfl) ?_ ?_ -- R2
      · trivial
      show ∃ z, _
      simp only [ml0, ml1, Nat.reduceLT, Nat.reduceEqDiff, Nat.reduceAdd, Nat.reduceMul, Nat.reduceSub, Nat.reduceLeDiff, Nat.reduceBEq, Nat.reduceBNe, reduceIte, reduceDIte, reduceCtorEq]
      obtain ⟨c1, c2, c3⟩ := hC
      first | exact ⟨c2, c1, by omega, by omega, Int.add_comm _ _⟩ | exact ⟨c1, c2, by omega, by omega⟩
    · intro hb0
      try simp only [decide_eq_true_eq, decide_eq_false_iff_not, beq_eq_false_iff_ne, bne_eq_false_iff_eq, Bool.not_eq_false', Bool.and_eq_false_imp] at hb0
      refine r_skip ?_
      show ∃ z, _
      simp only [ml0, ml1, Nat.reduceLT, Nat.reduceEqDiff, Nat.reduceAdd, Nat.reduceMul, Nat.reduceSub, Nat.reduceLeDiff, Nat.reduceBEq, Nat.reduceBNe, reduceIte, reduceDIte, reduceCtorEq]
      obtain ⟨c1, c2, c3⟩ := hC
      first | exact ⟨c2, c1, by omega, by omega, Int.add_comm _ _⟩ | exact ⟨c1, c2, by omega, by omega⟩
  rintro ⟨m, o⟩ ⟨h1, h2, h3, h4, h5⟩
  try dsimp only at h1 h2 h3 h4 h5
  have h4 : m.length < 1000000000000 := h4
  refine r_seq ?_
  refine r_region hG (by simp only [hT, tab50, mx0, mx1, mx2, mx3, mx4, mx5, effOp, endCall, callOp, appendOp, sliceLV, Ty.fieldTy, Ty.fieldOf, Nat.reduceLT, Nat.reduceEqDiff, Nat.reduceAdd, Nat.reduceMul, Nat.reduceSub, Nat.reduceLeDiff, Nat.reduceBEq, Nat.reduceBNe, reduceIte, reduceDIte, reduceCtorEq]; rfl) ?_ ?_ -- R3
  · try simp only [and_true, true_and]
    rw [wi (by omega) (by omega)]
    exact ⟨by omega, by omega, by unfold Cm.Roomy; omega⟩
  refine k_seq ?_
  refine r_seq ?_
  refine r_region hG (by simp only [hT, tab50, mx0, mx1, mx2, mx3, mx4, mx5, effOp, endCall, callOp, appendOp, sliceLV, Ty.fieldTy, Ty.fieldOf, Nat.reduceLT, Nat.reduceEqDiff, Nat.reduceAdd, Nat.reduceMul, Nat.reduceSub, Nat.reduceLeDiff, Nat.reduceBEq, Nat.reduceBNe, reduceIte, reduceDIte, reduceCtorEq]; rfl) ?_ ?_ -- R4
  · trivial
  refine k_seq ?_
  refine r_seq ?_
  refine r_seq ?_
  refine r_region hG (by simp only [hT, tab50, mx0, mx1, mx2, mx3, mx4, mx5, effOp, endCall, callOp, appendOp, sliceLV, Ty.fieldTy, Ty.fieldOf, Nat.reduceLT, Nat.reduceEqDiff, Nat.reduceAdd, Nat.reduceMul, Nat.reduceSub, Nat.reduceLeDiff, Nat.reduceBEq, Nat.reduceBNe, reduceIte, reduceDIte, reduceCtorEq]; rfl) ?_ ?_ -- R5
  · trivial
  refine k_seq ?_
  refine j_block ?_
  refine j_loop (fun (z : Nat × Int × List Int) => (⟨[(0, .l (.z (.slice (.int .u32)) m)), (1, .l (.z (.slice (.int .u32)) o)), (5, .l (.ownS 20)), (6, .l (.z (.int .u32) z.2.1)), (21, .l (.z (.slice (.int .u32)) m)), (22, .l (.z (.int .i64) (m.length : Int))), (23, .l (.z (.int .i64) (z.1 : Int)))], [(20, .arr (.int .u32) 82 z.2.2)]⟩ : AState)) (fun z => z.1 ≤ m.length ∧ z.2.2.length = z.1 ∧ Lim z.2.2 ∧ 0 ≤ z.2.1 ∧ z.2.1 ≤ 1 ∧ valL z.2.2 + LB ^ z.1 * z.2.1 = valL (m.take z.1) + valL (o.take z.1)) (fun z => m.length - z.1) (0, 0, []) ?_ ?_ ?_
  · simp only [ml0, ml1, Nat.reduceLT, Nat.reduceEqDiff, Nat.reduceAdd, Nat.reduceMul, Nat.reduceSub, Nat.reduceLeDiff, Nat.reduceBEq, Nat.reduceBNe, reduceIte, reduceDIte, reduceCtorEq]
    exact ⟨rfl, rfl⟩
  · simp [Lim, valL]
  · rintro ⟨k, c, out⟩ ⟨g1, g2, g3, g4, g5, g6⟩
    try dsimp only at g1 g2 g3 g4 g5 g6
    refine r_seq ?_
    refine r_region hG (by simp only [hT, tab50, mx0, mx1, mx2, mx3, mx4, mx5, effOp, endCall, callOp, appendOp, sliceLV, Ty.fieldTy, Ty.fieldOf, Nat.reduceLT, Nat.reduceEqDiff, Nat.reduceAdd, Nat.reduceMul, Nat.reduceSub, Nat.reduceLeDiff, Nat.reduceBEq, Nat.reduceBNe, reduceIte, reduceDIte, reduceCtorEq]; rfl) ?_ ?_ -- R6
    · trivial
    refine k_seq ?_
    refine r_seq ?_
    refine r_cond (by simp only [hT, tab50, mx0, mx1, mx2, mx3, mx4, mx5, effOp, endCall, callOp, appendOp, sliceLV, Ty.fieldTy, Ty.fieldOf, Nat.reduceLT, Nat.reduceEqDiff, Nat.reduceAdd, Nat.reduceMul, Nat.reduceSub, Nat.reduceLeDiff, Nat.reduceBEq, Nat.reduceBNe, reduceIte, reduceDIte, reduceCtorEq]; rfl) ?_ ?_
    · intro hb1
      try simp only [decide_eq_true_eq, decide_eq_false_iff_not, beq_iff_eq, bne_iff_ne, Bool.not_eq_true', Bool.and_eq_true] at hb1
      refine r_skip ?_
      refine k_seq ?_
      refine r_seq ?_
      refine j_block ?_
      refine r_seq ?_
      refine r_region hG (by simp only [hT, tab50, mx0, mx1, mx2, mx3, mx4, mx5, effOp, endCall, callOp, appendOp, sliceLV, Ty.fieldTy, Ty.fieldOf, Nat.reduceLT, Nat.reduceEqDiff, Nat.reduceAdd, Nat.reduceMul, Nat.reduceSub, Nat.reduceLeDiff, Nat.reduceBEq, Nat.reduceBNe, reduceIte, reduceDIte, reduceCtorEq]; rfl) ?_ ?_ -- R7
      · try simp only [and_true, true_and]
        exact ⟨by omega, hb1⟩
      refine k_seq ?_
      refine r_seq ?_
      refine r_region hG (by simp only [hT, tab50, mx0, mx1, mx2, mx3, mx4, mx5, effOp, endCall, callOp, appendOp, sliceLV, Ty.fieldTy, Ty.fieldOf, Nat.reduceLT, Nat.reduceEqDiff, Nat.reduceAdd, Nat.reduceMul, Nat.reduceSub, Nat.reduceLeDiff, Nat.reduceBEq, Nat.reduceBNe, reduceIte, reduceDIte, reduceCtorEq]; rfl) ?_ ?_ -- R8
      · trivial
      refine k_seq ?_
      refine r_cut (fun (z : Int) => (⟨[(0, .l (.z (.slice (.int .u32)) m)), (1, .l (.z (.slice (.int .u32)) o)), (5, .l (.ownS 20)), (9, .l (.z (.int .u32) z)), (21, .l (.z (.slice (.int .u32)) m)), (22, .l (.z (.int .i64) (m.length : Int))), (23, .l (.z (.int .i64) (k : Int)))], [(20, .arr (.int .u32) 82 out)]⟩ : AState)) (fun z => z = m.getD k 0 + c + o.getD k 0) ?_ ?_
      · refine r_seq ?_
        refine r_region hG (by simp only [hT, tab50, mx0, mx1, mx2, mx3, mx4, mx5, effOp, endCall, callOp, appendOp, sliceLV, Ty.fieldTy, Ty.fieldOf, Nat.reduceLT, Nat.reduceEqDiff, Nat.reduceAdd, Nat.reduceMul, Nat.reduceSub, Nat.reduceLeDiff, Nat.reduceBEq, Nat.reduceBNe, reduceIte, reduceDIte, reduceCtorEq]; rfl) ?_ ?_ -- R9
        · trivial
        refine k_seq ?_
        refine r_cond (by simp only [hT, tab50, mx0, mx1, mx2, mx3, mx4, mx5, effOp, endCall, callOp, appendOp, sliceLV, Ty.fieldTy, Ty.fieldOf, Nat.reduceLT, Nat.reduceEqDiff, Nat.reduceAdd, Nat.reduceMul, Nat.reduceSub, Nat.reduceLeDiff, Nat.reduceBEq, Nat.reduceBNe, reduceIte, reduceDIte, reduceCtorEq]; rfl) ?_ ?_
        · intro hb2
          try simp only [decide_eq_true_eq, decide_eq_false_iff_not, beq_iff_eq, bne_iff_ne, Bool.not_eq_true', Bool.and_eq_true] at hb2
          refine r_region hG (by simp only [hT, tab50, mx0, mx1, mx2, mx3, mx4, mx5, effOp, endCall, callOp, appendOp, sliceLV, Ty.fieldTy, Ty.fieldOf, Nat.reduceLT, Nat.reduceEqDiff, Nat.reduceAdd, Nat.reduceMul, Nat.reduceSub, Nat.reduceLeDiff, Nat.reduceBEq, Nat.reduceBNe, reduceIte, reduceDIte, reduceCtorEq]; rfl) ?_ ?_ -- R10
          · try simp only [and_true, true_and]
            exact ⟨by omega, hb2⟩
          show ∃ z, _
          simp only [ml0, ml1, Nat.reduceLT, Nat.reduceEqDiff, Nat.reduceAdd, Nat.reduceMul, Nat.reduceSub, Nat.reduceLeDiff, Nat.reduceBEq, Nat.reduceBNe, reduceIte, reduceDIte, reduceCtorEq]
          have hw := plus_wrap (h1.1.getD k) (h2.1.getD k) ⟨g4, g5⟩
          first | exact hw.2 | (rw [nth32, hw.1, List.getD_eq_getElem?_getD (l := o), List.getElem?_eq_none (by omega)]; simp)
        · intro hb2
          try simp only [decide_eq_true_eq, decide_eq_false_iff_not, beq_eq_false_iff_ne, bne_eq_false_iff_eq, Bool.not_eq_false', Bool.and_eq_false_imp] at hb2
          refine r_skip ?_
          show ∃ z, _
          simp only [ml0, ml1, Nat.reduceLT, Nat.reduceEqDiff, Nat.reduceAdd, Nat.reduceMul, Nat.reduceSub, Nat.reduceLeDiff, Nat.reduceBEq, Nat.reduceBNe, reduceIte, reduceDIte, reduceCtorEq]
          have hw := plus_wrap (h1.1.getD k) (h2.1.getD k) ⟨g4, g5⟩
          first | exact hw.2 | (rw [nth32, hw.1, List.getD_eq_getElem?_getD (l := o), List.getElem?_eq_none (by omega)]; simp)
      rintro n hn
      try dsimp only at hn
      refine r_seq ?_
      refine r_region hG (by simp only [hT, tab50, mx0, mx1, mx2, mx3, mx4, mx5, effOp, endCall, callOp, appendOp, sliceLV, Ty.fieldTy, Ty.fieldOf, Nat.reduceLT, Nat.reduceEqDiff, Nat.reduceAdd, Nat.reduceMul, Nat.reduceSub, Nat.reduceLeDiff, Nat.reduceBEq, Nat.reduceBNe, reduceIte, reduceDIte, reduceCtorEq]; rfl) ?_ ?_ -- R11
      · trivial
      refine k_seq ?_
      refine r_region hG (by simp only [hT, tab50, mx0, mx1, mx2, mx3, mx4, mx5, effOp, endCall, callOp, appendOp, sliceLV, Ty.fieldTy, Ty.fieldOf, Nat.reduceLT, Nat.reduceEqDiff, Nat.reduceAdd, Nat.reduceMul, Nat.reduceSub, Nat.reduceLeDiff, Nat.reduceBEq, Nat.reduceBNe, reduceIte, reduceDIte, reduceCtorEq]; rfl) ?_ ?_ -- R12
      · try simp only [and_true, true_and]
        exact ⟨by omega, by unfold Cm.Roomy; omega⟩
      refine k_block ?_
      refine k_seq ?_
      refine r_region hG (by simp only [hT, tab50, mx0, mx1, mx2, mx3, mx4, mx5, effOp, endCall, callOp, appendOp, sliceLV, Ty.fieldTy, Ty.fieldOf, Nat.reduceLT, Nat.reduceEqDiff, Nat.reduceAdd, Nat.reduceMul, Nat.reduceSub, Nat.reduceLeDiff, Nat.reduceBEq, Nat.reduceBNe, reduceIte, reduceDIte, reduceCtorEq]; rfl) ?_ ?_ -- R13
      · trivial
      show ∃ z, _
      simp only [ml0, ml1, Nat.reduceLT, Nat.reduceEqDiff, Nat.reduceAdd, Nat.reduceMul, Nat.reduceSub, Nat.reduceLeDiff, Nat.reduceBEq, Nat.reduceBNe, reduceIte, reduceDIte, reduceCtorEq]
      obtain ⟨q1, q2, q3, q4⟩ := plus_round h1.1 h2.1 g2 g3 g4 g5 g6 hn
      exact ⟨k + 1, by rw [wi (by omega) (by omega)]; simp, by omega, by simp [g2], q1, q2, q3, q4, by omega⟩
    · intro hb1
      try simp only [decide_eq_true_eq, decide_eq_false_iff_not, beq_eq_false_iff_ne, bne_eq_false_iff_eq, Bool.not_eq_false', Bool.and_eq_false_imp] at hb1
      refine r_exit ?_
      refine k_seq_exit ?_
      refine k_round_exit ?_
      refine k_block_exit ?_
      refine k_seq ?_
      refine r_cut (fun (z : List Int) => (⟨[(5, .l (.ownS 20))], [(20, .arr (.int .u32) 82 z)]⟩ : AState)) (fun z => z = limbs (valL m + valL o).toNat) ?_ ?_
      · refine r_seq ?_
        refine r_region hG (by simp only [hT, tab50, mx0, mx1, mx2, mx3, mx4, mx5, effOp, endCall, callOp, appendOp, sliceLV, Ty.fieldTy, Ty.fieldOf, Nat.reduceLT, Nat.reduceEqDiff, Nat.reduceAdd, Nat.reduceMul, Nat.reduceSub, Nat.reduceLeDiff, Nat.reduceBEq, Nat.reduceBNe, reduceIte, reduceDIte, reduceCtorEq]; rfl) ?_ ?_ -- R14
        · trivial
        refine k_seq ?_
        refine r_cond (by simp only [hT, tab50, mx0, mx1, mx2, mx3, mx4, mx5, effOp, endCall, callOp, appendOp, sliceLV, Ty.fieldTy, Ty.fieldOf, Nat.reduceLT, Nat.reduceEqDiff, Nat.reduceAdd, Nat.reduceMul, Nat.reduceSub, Nat.reduceLeDiff, Nat.reduceBEq, Nat.reduceBNe, reduceIte, reduceDIte, reduceCtorEq]; rfl) ?_ ?_
        · intro hb3
          try simp only [decide_eq_true_eq, decide_eq_false_iff_not, beq_iff_eq, bne_iff_ne, Bool.not_eq_true', Bool.and_eq_true] at hb3
          refine r_region hG (by simp only [hT, tab50, mx0, mx1, mx2, mx3, mx4, mx5, effOp, endCall, callOp, appendOp, sliceLV, Ty.fieldTy, Ty.fieldOf, Nat.reduceLT, Nat.reduceEqDiff, Nat.reduceAdd, Nat.reduceMul, Nat.reduceSub, Nat.reduceLeDiff, Nat.reduceBEq, Nat.reduceBNe, reduceIte, reduceDIte, reduceCtorEq]; rfl) ?_ ?_ -- R15
          · try simp only [and_true, true_and]
            unfold Cm.Roomy; omega
          show ∃ z, _
          simp only [ml0, ml1, Nat.reduceLT, Nat.reduceEqDiff, Nat.reduceAdd, Nat.reduceMul, Nat.reduceSub, Nat.reduceLeDiff, Nat.reduceBEq, Nat.reduceBNe, reduceIte, reduceDIte, reduceCtorEq]
          have he := plus_end (out := out) (c := c) h1 h2 h3 (by omega) g3 g4 g5 (by rw [show k = m.length by omega, List.take_length, List.take_of_length_le h3] at g6; exact g6)
          first | exact he.1 hb3 | exact he.2 hb3
        · intro hb3
          try simp only [decide_eq_true_eq, decide_eq_false_iff_not, beq_eq_false_iff_ne, bne_eq_false_iff_eq, Bool.not_eq_false', Bool.and_eq_false_imp] at hb3
          refine r_skip ?_
          show ∃ z, _
          simp only [ml0, ml1, Nat.reduceLT, Nat.reduceEqDiff, Nat.reduceAdd, Nat.reduceMul, Nat.reduceSub, Nat.reduceLeDiff, Nat.reduceBEq, Nat.reduceBNe, reduceIte, reduceDIte, reduceCtorEq]
          have he := plus_end (out := out) (c := c) h1 h2 h3 (by omega) g3 g4 g5 (by rw [show k = m.length by omega, List.take_length, List.take_of_length_le h3] at g6; exact g6)
          first | exact he.1 hb3 | exact he.2 hb3
      rintro out2 hout
      try dsimp only at hout
      refine r_seq ?_
      refine r_region hG (by simp only [hT, tab50, mx0, mx1, mx2, mx3, mx4, mx5, effOp, endCall, callOp, appendOp, sliceLV, Ty.fieldTy, Ty.fieldOf, Nat.reduceLT, Nat.reduceEqDiff, Nat.reduceAdd, Nat.reduceMul, Nat.reduceSub, Nat.reduceLeDiff, Nat.reduceBEq, Nat.reduceBNe, reduceIte, reduceDIte, reduceCtorEq]; rfl) ?_ ?_ -- R16
      · trivial
      refine k_seq ?_
      refine r_ret ?_
      refine ⟨[], ?_⟩
      simp only [hT, tab50, mr0, mr1, mr2, Nat.reduceLT, Nat.reduceEqDiff, Nat.reduceAdd, Nat.reduceMul, Nat.reduceSub, Nat.reduceLeDiff, Nat.reduceBEq, Nat.reduceBNe, reduceIte, reduceDIte, reduceCtorEq]
      rw [hout, h5]

def tab73 (B : Base) : Tab := { types := [(3, (.int .i64))], elems := [], cons := [], hint := [], N := 6, base := B }
theorem good73 {B : Base} (hB : Tabs B) : MGood Tryd.prog (tab73 B) := ⟨⟨types_cons ty3 (types_nil), elems_nil, by simp only [tab73, ioB]; omega⟩, cons_nil rfl, by kernel_rfl⟩
def cNaNi : Con := fun l os => match l, os with
  | [.z (.int .i64) a], [] => some (True, [.z .bool false], [])
  | _, _ => none

theorem valid73 {B : Base} (hB : Tabs B) : Valid B Tryd.prog 73 cNaNi := by
  refine valid_of_J (T := tab73 B) (good73 hB).tab Tryd.func73 rfl rfl rfl ?_
  intro args os C rs os' hc hC
  unfold cNaNi at hc
  split at hc
  case h_2 => cases hc
  rename_i a
  cases hc
  refine ⟨by simp only [List.length_cons, List.length_nil, tab73]; omega, rfl, ?_⟩
  intro X hP hT hr
  have hG : MGood X.P X.T := by rw [hP, hT]; exact good73 hB
  simp only [Tryd.f73, argEnv, ioList, ioB]
  refine r_seq ?_
  refine r_region hG (by simp only [hT, tab73, mx0, mx1, mx2, mx3, mx4, mx5, effOp, endCall, callOp, appendOp, sliceLV, Ty.fieldTy, Ty.fieldOf, Nat.reduceLT, Nat.reduceEqDiff, Nat.reduceAdd, Nat.reduceMul, Nat.reduceSub, Nat.reduceLeDiff, Nat.reduceBEq, Nat.reduceBNe, reduceIte, reduceDIte, reduceCtorEq]; rfl) ?_ ?_ -- R0
  · trivial
  refine k_seq ?_
  refine r_seq ?_
  refine r_region hG (by simp only [hT, tab73, mx0, mx1, mx2, mx3, mx4, mx5, effOp, endCall, callOp, appendOp, sliceLV, Ty.fieldTy, Ty.fieldOf, Nat.reduceLT, Nat.reduceEqDiff, Nat.reduceAdd, Nat.reduceMul, Nat.reduceSub, Nat.reduceLeDiff, Nat.reduceBEq, Nat.reduceBNe, reduceIte, reduceDIte, reduceCtorEq]; rfl) ?_ ?_ -- R1
  · trivial
  refine k_seq ?_
  refine r_ret ?_
  refine ⟨[], ?_⟩
  simp only [hT, tab73, mr0, mr1, mr2, Nat.reduceLT, Nat.reduceEqDiff, Nat.reduceAdd, Nat.reduceMul, Nat.reduceSub, Nat.reduceLeDiff, Nat.reduceBEq, Nat.reduceBNe, reduceIte, reduceDIte, reduceCtorEq]
  skip

def tab77 (B : Base) : Tab := { types := [(82, (.int .u32))], elems := [], cons := [], hint := [], N := 6, base := B }
theorem good77 {B : Base} (hB : Tabs B) : MGood Tryd.prog (tab77 B) := ⟨⟨types_cons ty82 (types_nil), elems_nil, by simp only [tab77, ioB]; omega⟩, cons_nil rfl, by kernel_rfl⟩
def cNaNu : Con := fun l os => match l, os with
  | [.z (.int .u32) a], [] => some (True, [.z .bool false], [])
  | _, _ => none

theorem valid77 {B : Base} (hB : Tabs B) : Valid B Tryd.prog 77 cNaNu := by
  refine valid_of_J (T := tab77 B) (good77 hB).tab Tryd.func77 rfl rfl rfl ?_
  intro args os C rs os' hc hC
  unfold cNaNu at hc
  split at hc
  case h_2 => cases hc
  rename_i a
  cases hc
  refine ⟨by simp only [List.length_cons, List.length_nil, tab77]; omega, rfl, ?_⟩
  intro X hP hT hr
  have hG : MGood X.P X.T := by rw [hP, hT]; exact good77 hB
  simp only [Tryd.f77, argEnv, ioList, ioB]
  refine r_seq ?_
  refine r_region hG (by simp only [hT, tab77, mx0, mx1, mx2, mx3, mx4, mx5, effOp, endCall, callOp, appendOp, sliceLV, Ty.fieldTy, Ty.fieldOf, Nat.reduceLT, Nat.reduceEqDiff, Nat.reduceAdd, Nat.reduceMul, Nat.reduceSub, Nat.reduceLeDiff, Nat.reduceBEq, Nat.reduceBNe, reduceIte, reduceDIte, reduceCtorEq]; rfl) ?_ ?_ -- R0
  · trivial
  refine k_seq ?_
  refine r_seq ?_
  refine r_region hG (by simp only [hT, tab77, mx0, mx1, mx2, mx3, mx4, mx5, effOp, endCall, callOp, appendOp, sliceLV, Ty.fieldTy, Ty.fieldOf, Nat.reduceLT, Nat.reduceEqDiff, Nat.reduceAdd, Nat.reduceMul, Nat.reduceSub, Nat.reduceLeDiff, Nat.reduceBEq, Nat.reduceBNe, reduceIte, reduceDIte, reduceCtorEq]; rfl) ?_ ?_ -- R1
  · trivial
  refine k_seq ?_
  refine r_ret ?_
  refine ⟨[], ?_⟩
  simp only [hT, tab77, mr0, mr1, mr2, Nat.reduceLT, Nat.reduceEqDiff, Nat.reduceAdd, Nat.reduceMul, Nat.reduceSub, Nat.reduceLeDiff, Nat.reduceBEq, Nat.reduceBNe, reduceIte, reduceDIte, reduceCtorEq]
  skip

def tab58 (B : Base) : Tab := { types := [(3, (.int .i64))], elems := [], cons := [(73, cNaNi)], hint := [], N := 20, base := B }
theorem good58 {B : Base} (hB : Tabs B) : MGood Tryd.prog (tab58 B) := ⟨⟨types_cons ty3 (types_nil), elems_nil, by simp only [tab58, ioB]; omega⟩, cons_ok (cals_cons (cal_ok Tryd.func73 (by kernel_rfl) rfl (valid73 hB)) (cals_nil)), by kernel_rfl⟩
def cCmpi : Con := fun l os => match l, os with
  | [.z (.int .i64) a, .z (.int .i64) b], [] => some (True, [.z (.int .i64) (cmpI a b)], [])
  | _, _ => none

theorem valid58 {B : Base} (hB : Tabs B) : Valid B Tryd.prog 58 cCmpi := by
  refine valid_of_J (T := tab58 B) (good58 hB).tab Tryd.func58 rfl rfl rfl ?_
  intro args os C rs os' hc hC
  unfold cCmpi at hc
  split at hc
  case h_2 => cases hc
  rename_i a b
  cases hc
  refine ⟨by simp only [List.length_cons, List.length_nil, tab58]; omega, rfl, ?_⟩
  intro X hP hT hr
  have hG : MGood X.P X.T := by rw [hP, hT]; exact good58 hB
  simp only [Tryd.f58, argEnv, ioList, ioB]
  refine r_seq ?_
  refine r_region hG (by simp only [hT, tab58, cNaNi, mx0, mx1, mx2, mx3, mx4, mx5, effOp, endCall, callOp, appendOp, sliceLV, Ty.fieldTy, Ty.fieldOf, Nat.reduceLT, Nat.reduceEqDiff, Nat.reduceAdd, Nat.reduceMul, Nat.reduceSub, Nat.reduceLeDiff, Nat.reduceBEq, Nat.reduceBNe, reduceIte, reduceDIte, reduceCtorEq]; rfl) ?_ ?_ -- R0
  · trivial
  refine k_seq ?_
  refine r_seq ?_
  refine r_region hG (by simp only [hT, tab58, cNaNi, mx0, mx1, mx2, mx3, mx4, mx5, effOp, endCall, callOp, appendOp, sliceLV, Ty.fieldTy, Ty.fieldOf, Nat.reduceLT, Nat.reduceEqDiff, Nat.reduceAdd, Nat.reduceMul, Nat.reduceSub, Nat.reduceLeDiff, Nat.reduceBEq, Nat.reduceBNe, reduceIte, reduceDIte, reduceCtorEq]; rfl) ?_ ?_ -- R1
  · trivial
  refine k_seq ?_
  refine r_seq ?_
  refine r_region hG (by simp only [hT, tab58, cNaNi, mx0, mx1, mx2, mx3, mx4, mx5, effOp, endCall, callOp, appendOp, sliceLV, Ty.fieldTy, Ty.fieldOf, Nat.reduceLT, Nat.reduceEqDiff, Nat.reduceAdd, Nat.reduceMul, Nat.reduceSub, Nat.reduceLeDiff, Nat.reduceBEq, Nat.reduceBNe, reduceIte, reduceDIte, reduceCtorEq]; rfl) ?_ ?_ -- R2
  · trivial
  refine k_seq ?_
  refine r_seq ?_
  refine r_seq ?_
  refine r_region hG (by simp only [hT, tab58, cNaNi, mx0, mx1, mx2, mx3, mx4, mx5, effOp, endCall, callOp, appendOp, sliceLV, Ty.fieldTy, Ty.fieldOf, Nat.reduceLT, Nat.reduceEqDiff, Nat.reduceAdd, Nat.reduceMul, Nat.reduceSub, Nat.reduceLeDiff, Nat.reduceBEq, Nat.reduceBNe, reduceIte, reduceDIte, reduceCtorEq]; rfl) ?_ ?_ -- R3
  · trivial
  refine k_seq ?_
  refine r_cond (by simp only [hT, tab58, mx0, mx1, mx2, mx3, mx4, mx5, effOp, endCall, callOp, appendOp, sliceLV, Ty.fieldTy, Ty.fieldOf, Nat.reduceLT, Nat.reduceEqDiff, Nat.reduceAdd, Nat.reduceMul, Nat.reduceSub, Nat.reduceLeDiff, Nat.reduceBEq, Nat.reduceBNe, reduceIte, reduceDIte, reduceCtorEq]; rfl) ?_ ?_
  · intro hb0
    cases hb0
  · intro hb0
    try simp only [decide_eq_true_eq, decide_eq_false_iff_not, beq_eq_false_iff_ne, bne_eq_false_iff_eq, Bool.not_eq_false', Bool.and_eq_false_imp] at hb0
    refine r_skip ?_
    refine k_seq ?_
    refine r_seq ?_
    refine r_seq ?_
    refine r_region hG (by simp only [hT, tab58, cNaNi, mx0, mx1, mx2, mx3, mx4, mx5, effOp, endCall, callOp, appendOp, sliceLV, Ty.fieldTy, Ty.fieldOf, Nat.reduceLT, Nat.reduceEqDiff, Nat.reduceAdd, Nat.reduceMul, Nat.reduceSub, Nat.reduceLeDiff, Nat.reduceBEq, Nat.reduceBNe, reduceIte, reduceDIte, reduceCtorEq]; rfl) ?_ ?_ -- R7
    · trivial
    refine k_seq ?_
    refine r_cond (by simp only [hT, tab58, mx0, mx1, mx2, mx3, mx4, mx5, effOp, endCall, callOp, appendOp, sliceLV, Ty.fieldTy, Ty.fieldOf, Nat.reduceLT, Nat.reduceEqDiff, Nat.reduceAdd, Nat.reduceMul, Nat.reduceSub, Nat.reduceLeDiff, Nat.reduceBEq, Nat.reduceBNe, reduceIte, reduceDIte, reduceCtorEq]; rfl) ?_ ?_
    · intro hb1
      cases hb1
    · intro hb1
      try simp only [decide_eq_true_eq, decide_eq_false_iff_not, beq_eq_false_iff_ne, bne_eq_false_iff_eq, Bool.not_eq_false', Bool.and_eq_false_imp] at hb1
      refine r_skip ?_
      refine k_seq ?_
      refine r_seq ?_
      refine r_seq ?_
      refine r_region hG (by simp only [hT, tab58, cNaNi, mx0, mx1, mx2, mx3, mx4, mx5, effOp, endCall, callOp, appendOp, sliceLV, Ty.fieldTy, Ty.fieldOf, Nat.reduceLT, Nat.reduceEqDiff, Nat.reduceAdd, Nat.reduceMul, Nat.reduceSub, Nat.reduceLeDiff, Nat.reduceBEq, Nat.reduceBNe, reduceIte, reduceDIte, reduceCtorEq]; rfl) ?_ ?_ -- R9
      · trivial
      refine k_seq ?_
      refine r_cond (by simp only [hT, tab58, mx0, mx1, mx2, mx3, mx4, mx5, effOp, endCall, callOp, appendOp, sliceLV, Ty.fieldTy, Ty.fieldOf, Nat.reduceLT, Nat.reduceEqDiff, Nat.reduceAdd, Nat.reduceMul, Nat.reduceSub, Nat.reduceLeDiff, Nat.reduceBEq, Nat.reduceBNe, reduceIte, reduceDIte, reduceCtorEq]; rfl) ?_ ?_
      · intro hb2
        try simp only [decide_eq_true_eq, decide_eq_false_iff_not, beq_iff_eq, bne_iff_ne, Bool.not_eq_true', Bool.and_eq_true] at hb2
        refine r_seq ?_
        refine r_region hG (by simp only [hT, tab58, cNaNi, mx0, mx1, mx2, mx3, mx4, mx5, effOp, endCall, callOp, appendOp, sliceLV, Ty.fieldTy, Ty.fieldOf, Nat.reduceLT, Nat.reduceEqDiff, Nat.reduceAdd, Nat.reduceMul, Nat.reduceSub, Nat.reduceLeDiff, Nat.reduceBEq, Nat.reduceBNe, reduceIte, reduceDIte, reduceCtorEq]; rfl) ?_ ?_ -- R10
        · trivial
        refine k_seq ?_
        refine r_ret ?_
        refine k_seq_ret ?_
        refine ⟨[], ?_⟩
        simp only [hT, tab58, mr0, mr1, mr2, Nat.reduceLT, Nat.reduceEqDiff, Nat.reduceAdd, Nat.reduceMul, Nat.reduceSub, Nat.reduceLeDiff, Nat.reduceBEq, Nat.reduceBNe, reduceIte, reduceDIte, reduceCtorEq]
        rw [cmpI, if_pos hb2]
      · intro hb2
        try simp only [decide_eq_true_eq, decide_eq_false_iff_not, beq_eq_false_iff_ne, bne_eq_false_iff_eq, Bool.not_eq_false', Bool.and_eq_false_imp] at hb2
        refine r_skip ?_
        refine k_seq ?_
        refine r_seq ?_
        refine r_seq ?_
        refine r_region hG (by simp only [hT, tab58, cNaNi, mx0, mx1, mx2, mx3, mx4, mx5, effOp, endCall, callOp, appendOp, sliceLV, Ty.fieldTy, Ty.fieldOf, Nat.reduceLT, Nat.reduceEqDiff, Nat.reduceAdd, Nat.reduceMul, Nat.reduceSub, Nat.reduceLeDiff, Nat.reduceBEq, Nat.reduceBNe, reduceIte, reduceDIte, reduceCtorEq]; rfl) ?_ ?_ -- R11
        · trivial
        refine k_seq ?_
        refine r_cond (by simp only [hT, tab58, mx0, mx1, mx2, mx3, mx4, mx5, effOp, endCall, callOp, appendOp, sliceLV, Ty.fieldTy, Ty.fieldOf, Nat.reduceLT, Nat.reduceEqDiff, Nat.reduceAdd, Nat.reduceMul, Nat.reduceSub, Nat.reduceLeDiff, Nat.reduceBEq, Nat.reduceBNe, reduceIte, reduceDIte, reduceCtorEq]; rfl) ?_ ?_
        · intro hb3
          try simp only [decide_eq_true_eq, decide_eq_false_iff_not, beq_iff_eq, bne_iff_ne, Bool.not_eq_true', Bool.and_eq_true] at hb3
          refine r_seq ?_
          refine r_region hG (by simp only [hT, tab58, cNaNi, mx0, mx1, mx2, mx3, mx4, mx5, effOp, endCall, callOp, appendOp, sliceLV, Ty.fieldTy, Ty.fieldOf, Nat.reduceLT, Nat.reduceEqDiff, Nat.reduceAdd, Nat.reduceMul, Nat.reduceSub, Nat.reduceLeDiff, Nat.reduceBEq, Nat.reduceBNe, reduceIte, reduceDIte, reduceCtorEq]; rfl) ?_ ?_ -- R12
          · trivial
          refine k_seq ?_
          refine r_ret ?_
          refine k_seq_ret ?_
          refine ⟨[], ?_⟩
          simp only [hT, tab58, mr0, mr1, mr2, Nat.reduceLT, Nat.reduceEqDiff, Nat.reduceAdd, Nat.reduceMul, Nat.reduceSub, Nat.reduceLeDiff, Nat.reduceBEq, Nat.reduceBNe, reduceIte, reduceDIte, reduceCtorEq]
          rw [cmpI, if_neg (by omega), if_pos hb3]
        · intro hb3
          try simp only [decide_eq_true_eq, decide_eq_false_iff_not, beq_eq_false_iff_ne, bne_eq_false_iff_eq, Bool.not_eq_false', Bool.and_eq_false_imp] at hb3
          refine r_skip ?_
          refine k_seq ?_
          refine r_seq ?_
          refine r_region hG (by simp only [hT, tab58, cNaNi, mx0, mx1, mx2, mx3, mx4, mx5, effOp, endCall, callOp, appendOp, sliceLV, Ty.fieldTy, Ty.fieldOf, Nat.reduceLT, Nat.reduceEqDiff, Nat.reduceAdd, Nat.reduceMul, Nat.reduceSub, Nat.reduceLeDiff, Nat.reduceBEq, Nat.reduceBNe, reduceIte, reduceDIte, reduceCtorEq]; rfl) ?_ ?_ -- R13
          · trivial
          refine k_seq ?_
          refine r_ret ?_
          refine ⟨[], ?_⟩
          simp only [hT, tab58, mr0, mr1, mr2, Nat.reduceLT, Nat.reduceEqDiff, Nat.reduceAdd, Nat.reduceMul, Nat.reduceSub, Nat.reduceLeDiff, Nat.reduceBEq, Nat.reduceBNe, reduceIte, reduceDIte, reduceCtorEq]
          rw [cmpI, if_neg hb2, if_neg hb3]

def tab66 (B : Base) : Tab := { types := [(82, (.int .u32))], elems := [], cons := [(77, cNaNu)], hint := [], N := 20, base := B }
theorem good66 {B : Base} (hB : Tabs B) : MGood Tryd.prog (tab66 B) := ⟨⟨types_cons ty82 (types_nil), elems_nil, by simp only [tab66, ioB]; omega⟩, cons_ok (cals_cons (cal_ok Tryd.func77 (by kernel_rfl) rfl (valid77 hB)) (cals_nil)), by kernel_rfl⟩
def cCmpu : Con := fun l os => match l, os with
  | [.z (.int .u32) a, .z (.int .u32) b], [] => some (True, [.z (.int .i64) (cmpI a b)], [])
  | _, _ => none

theorem valid66 {B : Base} (hB : Tabs B) : Valid B Tryd.prog 66 cCmpu := by
  refine valid_of_J (T := tab66 B) (good66 hB).tab Tryd.func66 rfl rfl rfl ?_
  intro args os C rs os' hc hC
  unfold cCmpu at hc
  split at hc
  case h_2 => cases hc
  rename_i a b
  cases hc
  refine ⟨by simp only [List.length_cons, List.length_nil, tab66]; omega, rfl, ?_⟩
  intro X hP hT hr
  have hG : MGood X.P X.T := by rw [hP, hT]; exact good66 hB
  simp only [Tryd.f66, argEnv, ioList, ioB]
  refine r_seq ?_
  refine r_region hG (by simp only [hT, tab66, cNaNu, mx0, mx1, mx2, mx3, mx4, mx5, effOp, endCall, callOp, appendOp, sliceLV, Ty.fieldTy, Ty.fieldOf, Nat.reduceLT, Nat.reduceEqDiff, Nat.reduceAdd, Nat.reduceMul, Nat.reduceSub, Nat.reduceLeDiff, Nat.reduceBEq, Nat.reduceBNe, reduceIte, reduceDIte, reduceCtorEq]; rfl) ?_ ?_ -- R0
  · trivial
  refine k_seq ?_
  refine r_seq ?_
  refine r_region hG (by simp only [hT, tab66, cNaNu, mx0, mx1, mx2, mx3, mx4, mx5, effOp, endCall, callOp, appendOp, sliceLV, Ty.fieldTy, Ty.fieldOf, Nat.reduceLT, Nat.reduceEqDiff, Nat.reduceAdd, Nat.reduceMul, Nat.reduceSub, Nat.reduceLeDiff, Nat.reduceBEq, Nat.reduceBNe, reduceIte, reduceDIte, reduceCtorEq]; rfl) ?_ ?_ -- R1
  · trivial
  refine k_seq ?_
  refine r_seq ?_
  refine r_region hG (by simp only [hT, tab66, cNaNu, mx0, mx1, mx2, mx3, mx4, mx5, effOp, endCall, callOp, appendOp, sliceLV, Ty.fieldTy, Ty.fieldOf, Nat.reduceLT, Nat.reduceEqDiff, Nat.reduceAdd, Nat.reduceMul, Nat.reduceSub, Nat.reduceLeDiff, Nat.reduceBEq, Nat.reduceBNe, reduceIte, reduceDIte, reduceCtorEq]; rfl) ?_ ?_ -- R2
  · trivial
  refine k_seq ?_
  refine r_seq ?_
  refine r_seq ?_
  refine r_region hG (by simp only [hT, tab66, cNaNu, mx0, mx1, mx2, mx3, mx4, mx5, effOp, endCall, callOp, appendOp, sliceLV, Ty.fieldTy, Ty.fieldOf, Nat.reduceLT, Nat.reduceEqDiff, Nat.reduceAdd, Nat.reduceMul, Nat.reduceSub, Nat.reduceLeDiff, Nat.reduceBEq, Nat.reduceBNe, reduceIte, reduceDIte, reduceCtorEq]; rfl) ?_ ?_ -- R3
  · trivial
  refine k_seq ?_
  refine r_cond (by simp only [hT, tab66, mx0, mx1, mx2, mx3, mx4, mx5, effOp, endCall, callOp, appendOp, sliceLV, Ty.fieldTy, Ty.fieldOf, Nat.reduceLT, Nat.reduceEqDiff, Nat.reduceAdd, Nat.reduceMul, Nat.reduceSub, Nat.reduceLeDiff, Nat.reduceBEq, Nat.reduceBNe, reduceIte, reduceDIte, reduceCtorEq]; rfl) ?_ ?_
  · intro hb0
    cases hb0
  · intro hb0
    try simp only [decide_eq_true_eq, decide_eq_false_iff_not, beq_eq_false_iff_ne, bne_eq_false_iff_eq, Bool.not_eq_false', Bool.and_eq_false_imp] at hb0
    refine r_skip ?_
    refine k_seq ?_
    refine r_seq ?_
    refine r_seq ?_
    refine r_region hG (by simp only [hT, tab66, cNaNu, mx0, mx1, mx2, mx3, mx4, mx5, effOp, endCall, callOp, appendOp, sliceLV, Ty.fieldTy, Ty.fieldOf, Nat.reduceLT, Nat.reduceEqDiff, Nat.reduceAdd, Nat.reduceMul, Nat.reduceSub, Nat.reduceLeDiff, Nat.reduceBEq, Nat.reduceBNe, reduceIte, reduceDIte, reduceCtorEq]; rfl) ?_ ?_ -- R7
    · trivial
    refine k_seq ?_
    refine r_cond (by simp only [hT, tab66, mx0, mx1, mx2, mx3, mx4, mx5, effOp, endCall, callOp, appendOp, sliceLV, Ty.fieldTy, Ty.fieldOf, Nat.reduceLT, Nat.reduceEqDiff, Nat.reduceAdd, Nat.reduceMul, Nat.reduceSub, Nat.reduceLeDiff, Nat.reduceBEq, Nat.reduceBNe, reduceIte, reduceDIte, reduceCtorEq]; rfl) ?_ ?_
    · intro hb1
      cases hb1
    · intro hb1
      try simp only [decide_eq_true_eq, decide_eq_false_iff_not, beq_eq_false_iff_ne, bne_eq_false_iff_eq, Bool.not_eq_false', Bool.and_eq_false_imp] at hb1
      refine r_skip ?_
      refine k_seq ?_
      refine r_seq ?_
      refine r_seq ?_
      refine r_region hG (by simp only [hT, tab66, cNaNu, mx0, mx1, mx2, mx3, mx4, mx5, effOp, endCall, callOp, appendOp, sliceLV, Ty.fieldTy, Ty.fieldOf, Nat.reduceLT, Nat.reduceEqDiff, Nat.reduceAdd, Nat.reduceMul, Nat.reduceSub, Nat.reduceLeDiff, Nat.reduceBEq, Nat.reduceBNe, reduceIte, reduceDIte, reduceCtorEq]; rfl) ?_ ?_ -- R9
      · trivial
      refine k_seq ?_
      refine r_cond (by simp only [hT, tab66, mx0, mx1, mx2, mx3, mx4, mx5, effOp, endCall, callOp, appendOp, sliceLV, Ty.fieldTy, Ty.fieldOf, Nat.reduceLT, Nat.reduceEqDiff, Nat.reduceAdd, Nat.reduceMul, Nat.reduceSub, Nat.reduceLeDiff, Nat.reduceBEq, Nat.reduceBNe, reduceIte, reduceDIte, reduceCtorEq]; rfl) ?_ ?_
      · intro hb2
        try simp only [decide_eq_true_eq, decide_eq_false_iff_not, beq_iff_eq, bne_iff_ne, Bool.not_eq_true', Bool.and_eq_true] at hb2
        refine r_seq ?_
        refine r_region hG (by simp only [hT, tab66, cNaNu, mx0, mx1, mx2, mx3, mx4, mx5, effOp, endCall, callOp, appendOp, sliceLV, Ty.fieldTy, Ty.fieldOf, Nat.reduceLT, Nat.reduceEqDiff, Nat.reduceAdd, Nat.reduceMul, Nat.reduceSub, Nat.reduceLeDiff, Nat.reduceBEq, Nat.reduceBNe, reduceIte, reduceDIte, reduceCtorEq]; rfl) ?_ ?_ -- R10
        · trivial
        refine k_seq ?_
        refine r_ret ?_
        refine k_seq_ret ?_
        refine ⟨[], ?_⟩
        simp only [hT, tab66, mr0, mr1, mr2, Nat.reduceLT, Nat.reduceEqDiff, Nat.reduceAdd, Nat.reduceMul, Nat.reduceSub, Nat.reduceLeDiff, Nat.reduceBEq, Nat.reduceBNe, reduceIte, reduceDIte, reduceCtorEq]
        rw [cmpI, if_pos hb2]
      · intro hb2
        try simp only [decide_eq_true_eq, decide_eq_false_iff_not, beq_eq_false_iff_ne, bne_eq_false_iff_eq, Bool.not_eq_false', Bool.and_eq_false_imp] at hb2
        refine r_skip ?_
        refine k_seq ?_
        refine r_seq ?_
        refine r_seq ?_
        refine r_region hG (by simp only [hT, tab66, cNaNu, mx0, mx1, mx2, mx3, mx4, mx5, effOp, endCall, callOp, appendOp, sliceLV, Ty.fieldTy, Ty.fieldOf, Nat.reduceLT, Nat.reduceEqDiff, Nat.reduceAdd, Nat.reduceMul, Nat.reduceSub, Nat.reduceLeDiff, Nat.reduceBEq, Nat.reduceBNe, reduceIte, reduceDIte, reduceCtorEq]; rfl) ?_ ?_ -- R11
        · trivial
        refine k_seq ?_
        refine r_cond (by simp only [hT, tab66, mx0, mx1, mx2, mx3, mx4, mx5, effOp, endCall, callOp, appendOp, sliceLV, Ty.fieldTy, Ty.fieldOf, Nat.reduceLT, Nat.reduceEqDiff, Nat.reduceAdd, Nat.reduceMul, Nat.reduceSub, Nat.reduceLeDiff, Nat.reduceBEq, Nat.reduceBNe, reduceIte, reduceDIte, reduceCtorEq]; rfl) ?_ ?_
        · intro hb3
          try simp only [decide_eq_true_eq, decide_eq_false_iff_not, beq_iff_eq, bne_iff_ne, Bool.not_eq_true', Bool.and_eq_true] at hb3
          refine r_seq ?_
          refine r_region hG (by simp only [hT, tab66, cNaNu, mx0, mx1, mx2, mx3, mx4, mx5, effOp, endCall, callOp, appendOp, sliceLV, Ty.fieldTy, Ty.fieldOf, Nat.reduceLT, Nat.reduceEqDiff, Nat.reduceAdd, Nat.reduceMul, Nat.reduceSub, Nat.reduceLeDiff, Nat.reduceBEq, Nat.reduceBNe, reduceIte, reduceDIte, reduceCtorEq]; rfl) ?_ ?_ -- R12
          · trivial
          refine k_seq ?_
          refine r_ret ?_
          refine k_seq_ret ?_
          refine ⟨[], ?_⟩
          simp only [hT, tab66, mr0, mr1, mr2, Nat.reduceLT, Nat.reduceEqDiff, Nat.reduceAdd, Nat.reduceMul, Nat.reduceSub, Nat.reduceLeDiff, Nat.reduceBEq, Nat.reduceBNe, reduceIte, reduceDIte, reduceCtorEq]
          rw [cmpI, if_neg (by omega), if_pos hb3]
        · intro hb3
          try simp only [decide_eq_true_eq, decide_eq_false_iff_not, beq_eq_false_iff_ne, bne_eq_false_iff_eq, Bool.not_eq_false', Bool.and_eq_false_imp] at hb3
          refine r_skip ?_
          refine k_seq ?_
          refine r_seq ?_
          refine r_region hG (by simp only [hT, tab66, cNaNu, mx0, mx1, mx2, mx3, mx4, mx5, effOp, endCall, callOp, appendOp, sliceLV, Ty.fieldTy, Ty.fieldOf, Nat.reduceLT, Nat.reduceEqDiff, Nat.reduceAdd, Nat.reduceMul, Nat.reduceSub, Nat.reduceLeDiff, Nat.reduceBEq, Nat.reduceBNe, reduceIte, reduceDIte, reduceCtorEq]; rfl) ?_ ?_ -- R13
          · trivial
          refine k_seq ?_
          refine r_ret ?_
          refine ⟨[], ?_⟩
          simp only [hT, tab66, mr0, mr1, mr2, Nat.reduceLT, Nat.reduceEqDiff, Nat.reduceAdd, Nat.reduceMul, Nat.reduceSub, Nat.reduceLeDiff, Nat.reduceBEq, Nat.reduceBNe, reduceIte, reduceDIte, reduceCtorEq]
          rw [cmpI, if_neg hb2, if_neg hb3]

def tab49 (B : Base) : Tab := { types := [(3, (.int .i64)), (53, (.slice (.int .u32))), (55, (.st (.pair .bool (.slice (.int .u32))))), (82, (.int .u32))], elems := [], cons := [], hint := [], N := 30, base := B }
theorem good49 {B : Base} (hB : Tabs B) : MGood Tryd.prog (tab49 B) := ⟨⟨types_cons ty3 (types_cons ty53 (types_cons ty55 (types_cons ty82 (types_nil)))), elems_nil, by simp only [tab49, ioB]; omega⟩, cons_nil rfl, by kernel_rfl⟩
def cWhole : Con := fun l os => match l, os with
  | [.z .bool s, .z (.slice (.int .u32)) m], [] => some (Lim m ∧ m.length < CAP, [.z (.st (.pair .bool (.slice (.int .u32)))) (enc (dec (s, m)))], [])
  | _, _ => none

theorem valid49 {B : Base} (hB : Tabs B) : Valid B Tryd.prog 49 cWhole := by
  refine valid_of_J (T := tab49 B) (good49 hB).tab Tryd.func49 rfl rfl rfl ?_
  intro args os C rs os' hc hC
  unfold cWhole at hc
  split at hc
  case h_2 => cases hc
  rename_i s m
  cases hc
  refine ⟨by simp only [List.length_cons, List.length_nil, tab49]; omega, rfl, ?_⟩
  intro X hP hT hr
  have hG : MGood X.P X.T := by rw [hP, hT]; exact good49 hB
  simp only [Tryd.f49, argEnv, ioList, ioB]
  refine r_seq ?_
  refine r_region hG (by simp only [hT, tab49, mx0, mx1, mx2, mx3, mx4, mx5, effOp, endCall, callOp, appendOp, sliceLV, Ty.fieldTy, Ty.fieldOf, Nat.reduceLT, Nat.reduceEqDiff, Nat.reduceAdd, Nat.reduceMul, Nat.reduceSub, Nat.reduceLeDiff, Nat.reduceBEq, Nat.reduceBNe, reduceIte, reduceDIte, reduceCtorEq]; rfl) ?_ ?_ -- R0
  · trivial
  refine k_seq ?_
  refine r_seq ?_
  refine j_block ?_
  refine j_loop (fun (z : List Int) => (⟨[(0, .l (.z .bool s)), (1, .l (.z (.slice (.int .u32)) z)), (4, .l (.ownP 4 0))], [(4, .box 55 [.z .bool false, .val (.slice none 0 0)])]⟩ : AState)) (fun z => Lim z ∧ valL z = valL m ∧ z.length ≤ m.length) (fun z => z.length) m ?_ ?_ ?_
  · simp only [ml0, ml1, Nat.reduceLT, Nat.reduceEqDiff, Nat.reduceAdd, Nat.reduceMul, Nat.reduceSub, Nat.reduceLeDiff, Nat.reduceBEq, Nat.reduceBNe, reduceIte, reduceDIte, reduceCtorEq]
  · exact ⟨hC.1, rfl, Nat.le_refl _⟩
  · rintro z ⟨g1, g2, g3⟩
    try dsimp only at g1 g2 g3
    have h4 : z.length < 1000000000000 := Nat.lt_of_le_of_lt g3 hC.2
    refine r_seq ?_
    refine r_seq ?_
    refine r_region hG (by simp only [hT, tab49, mx0, mx1, mx2, mx3, mx4, mx5, effOp, endCall, callOp, appendOp, sliceLV, Ty.fieldTy, Ty.fieldOf, Nat.reduceLT, Nat.reduceEqDiff, Nat.reduceAdd, Nat.reduceMul, Nat.reduceSub, Nat.reduceLeDiff, Nat.reduceBEq, Nat.reduceBNe, reduceIte, reduceDIte, reduceCtorEq]; rfl) ?_ ?_ -- R1
    · try simp only [and_true, true_and]
      exact ⟨id, id, fun h => ⟨h, by simp only [decide_eq_true_eq] at h; rw [wi (by omega) (by omega)]; omega⟩, id⟩
    refine k_seq ?_
    refine r_cond (by simp only [hT, tab49, mx0, mx1, mx2, mx3, mx4, mx5, effOp, endCall, callOp, appendOp, sliceLV, Ty.fieldTy, Ty.fieldOf, Nat.reduceLT, Nat.reduceEqDiff, Nat.reduceAdd, Nat.reduceMul, Nat.reduceSub, Nat.reduceLeDiff, Nat.reduceBEq, Nat.reduceBNe, reduceIte, reduceDIte, reduceCtorEq]; rfl) ?_ ?_
    · intro hb0
      try simp only [decide_eq_true_eq, decide_eq_false_iff_not, beq_iff_eq, bne_iff_ne, Bool.not_eq_true', Bool.and_eq_true] at hb0
      refine r_skip ?_
      refine k_seq ?_
      refine j_block ?_
      refine r_region hG (by simp only [hT, tab49, mx0, mx1, mx2, mx3, mx4, mx5, effOp, endCall, callOp, appendOp, sliceLV, Ty.fieldTy, Ty.fieldOf, Nat.reduceLT, Nat.reduceEqDiff, Nat.reduceAdd, Nat.reduceMul, Nat.reduceSub, Nat.reduceLeDiff, Nat.reduceBEq, Nat.reduceBNe, reduceIte, reduceDIte, reduceCtorEq]; rfl) ?_ ?_ -- R2
      · try simp only [and_true, true_and]
        rw [wi (by omega) (by omega)]; omega
      refine k_block ?_
      show ∃ z, _
      simp only [ml0, ml1, Nat.reduceLT, Nat.reduceEqDiff, Nat.reduceAdd, Nat.reduceMul, Nat.reduceSub, Nat.reduceLeDiff, Nat.reduceBEq, Nat.reduceBNe, reduceIte, reduceDIte, reduceCtorEq]
      exact whole_round g1 g2 g3 hb0.1 h4 hb0.2
    · intro hb0
      try simp only [decide_eq_true_eq, decide_eq_false_iff_not, beq_eq_false_iff_ne, bne_eq_false_iff_eq, Bool.not_eq_false', Bool.and_eq_false_imp] at hb0
      refine r_exit ?_
      refine k_seq_exit ?_
      refine k_round_exit ?_
      refine k_block_exit ?_
      refine k_seq ?_
      refine r_seq ?_
      refine r_region hG (by simp only [hT, tab49, mx0, mx1, mx2, mx3, mx4, mx5, effOp, endCall, callOp, appendOp, sliceLV, Ty.fieldTy, Ty.fieldOf, Nat.reduceLT, Nat.reduceEqDiff, Nat.reduceAdd, Nat.reduceMul, Nat.reduceSub, Nat.reduceLeDiff, Nat.reduceBEq, Nat.reduceBNe, reduceIte, reduceDIte, reduceCtorEq]; rfl) ?_ ?_ -- R3
      · try simp only [and_true, true_and]
        exact id
      refine k_seq ?_
      refine r_ret ?_
      refine ⟨[], ?_⟩
      simp only [hT, tab49, mr0, mr1, mr2, Nat.reduceLT, Nat.reduceEqDiff, Nat.reduceAdd, Nat.reduceMul, Nat.reduceSub, Nat.reduceLeDiff, Nat.reduceBEq, Nat.reduceBNe, reduceIte, reduceDIte, reduceCtorEq]
      refine whole_fin g1 g2 fun hz h0 => ?_
      have := hb0 (by simp; omega)
      rw [wi (by omega) (by omega), last_eq hz] at this
      exact this h0

def tab53 (B : Base) : Tab := { types := [(4, .bool), (53, (.slice (.int .u32))), (55, (.st (.pair .bool (.slice (.int .u32)))))], elems := [], cons := [(49, cWhole)], hint := [], N := 9, base := B }
theorem good53 {B : Base} (hB : Tabs B) : MGood Tryd.prog (tab53 B) := ⟨⟨types_cons ty4 (types_cons ty53 (types_cons ty55 (types_nil))), elems_nil, by simp only [tab53, ioB]; omega⟩, cons_ok (cals_cons (cal_ok Tryd.func49 (by kernel_rfl) rfl (valid49 hB)) (cals_nil)), by kernel_rfl⟩
def cNeg : Con := fun l os => match l, os with
  | [.z (.st (.pair .bool (.slice (.int .u32)))) x], [] => some (Lim x.2 ∧ x.2.length < CAP, [.z (.st (.pair .bool (.slice (.int .u32)))) (enc (- dec x))], [])
  | _, _ => none

theorem valid53 {B : Base} (hB : Tabs B) : Valid B Tryd.prog 53 cNeg := by
  refine valid_of_J (T := tab53 B) (good53 hB).tab Tryd.func53 rfl rfl rfl ?_
  intro args os C rs os' hc hC
  unfold cNeg at hc
  split at hc
  case h_2 => cases hc
  rename_i x
  cases hc
  refine ⟨by simp only [List.length_cons, List.length_nil, tab53]; omega, rfl, ?_⟩
  intro X hP hT hr
  have hG : MGood X.P X.T := by rw [hP, hT]; exact good53 hB
  simp only [Tryd.f53, argEnv, ioList, ioB]
  refine r_seq ?_
  refine r_region hG (by simp only [hT, tab53, cWhole, mx0, mx1, mx2, mx3, mx4, mx5, effOp, endCall, callOp, appendOp, sliceLV, Ty.fieldTy, Ty.fieldOf, Nat.reduceLT, Nat.reduceEqDiff, Nat.reduceAdd, Nat.reduceMul, Nat.reduceSub, Nat.reduceLeDiff, Nat.reduceBEq, Nat.reduceBNe, reduceIte, reduceDIte, reduceCtorEq]; rfl) ?_ ?_ -- R0
  · trivial
  refine k_seq ?_
  refine r_seq ?_
  refine r_region hG (by simp only [hT, tab53, cWhole, mx0, mx1, mx2, mx3, mx4, mx5, effOp, endCall, callOp, appendOp, sliceLV, Ty.fieldTy, Ty.fieldOf, Nat.reduceLT, Nat.reduceEqDiff, Nat.reduceAdd, Nat.reduceMul, Nat.reduceSub, Nat.reduceLeDiff, Nat.reduceBEq, Nat.reduceBNe, reduceIte, reduceDIte, reduceCtorEq]; rfl) ?_ ?_ -- R1
  · try simp only [and_true, true_and]
    exact hC
  refine k_seq ?_
  refine r_ret ?_
  refine ⟨[], ?_⟩
  simp only [hT, tab53, mr0, mr1, mr2, Nat.reduceLT, Nat.reduceEqDiff, Nat.reduceAdd, Nat.reduceMul, Nat.reduceSub, Nat.reduceLeDiff, Nat.reduceBEq, Nat.reduceBNe, reduceIte, reduceDIte, reduceCtorEq]
  rw [dec_not]

def tab31 (B : Base) : Tab := { types := [(3, (.int .i64)), (4, .bool), (53, (.slice (.int .u32))), (55, (.st (.pair .bool (.slice (.int .u32)))))], elems := [], cons := [], hint := [], N := 11, base := B }
theorem good31 {B : Base} (hB : Tabs B) : MGood Tryd.prog (tab31 B) := ⟨⟨types_cons ty3 (types_cons ty4 (types_cons ty53 (types_cons ty55 (types_nil)))), elems_nil, by simp only [tab31, ioB]; omega⟩, cons_nil rfl, by kernel_rfl⟩
def cSign : Con := fun l os => match l, os with
  | [.z (.st (.pair .bool (.slice (.int .u32)))) x], [] => some (WOK x, [.z (.int .i64) (cmpI (dec x) 0)], [])
  | _, _ => none

theorem valid31 {B : Base} (hB : Tabs B) : Valid B Tryd.prog 31 cSign := by
  refine valid_of_J (T := tab31 B) (good31 hB).tab Tryd.func31 rfl rfl rfl ?_
  intro args os C rs os' hc hC
  unfold cSign at hc
  split at hc
  case h_2 => cases hc
  rename_i x
  cases hc
  refine ⟨by simp only [List.length_cons, List.length_nil, tab31]; omega, rfl, ?_⟩
  intro X hP hT hr
  have hG : MGood X.P X.T := by rw [hP, hT]; exact good31 hB
  simp only [Tryd.f31, argEnv, ioList, ioB]
  refine r_seq ?_
  refine r_region hG (by simp only [hT, tab31, mx0, mx1, mx2, mx3, mx4, mx5, effOp, endCall, callOp, appendOp, sliceLV, Ty.fieldTy, Ty.fieldOf, Nat.reduceLT, Nat.reduceEqDiff, Nat.reduceAdd, Nat.reduceMul, Nat.reduceSub, Nat.reduceLeDiff, Nat.reduceBEq, Nat.reduceBNe, reduceIte, reduceDIte, reduceCtorEq]; rfl) ?_ ?_ -- R0
  · trivial
  refine k_seq ?_
  refine r_seq ?_
  refine j_block ?_
  refine r_seq ?_
  refine r_region hG (by simp only [hT, tab31, mx0, mx1, mx2, mx3, mx4, mx5, effOp, endCall, callOp, appendOp, sliceLV, Ty.fieldTy, Ty.fieldOf, Nat.reduceLT, Nat.reduceEqDiff, Nat.reduceAdd, Nat.reduceMul, Nat.reduceSub, Nat.reduceLeDiff, Nat.reduceBEq, Nat.reduceBNe, reduceIte, reduceDIte, reduceCtorEq]; rfl) ?_ ?_ -- R1
  · trivial
  refine k_seq ?_
  refine r_cond (by simp only [hT, tab31, mx0, mx1, mx2, mx3, mx4, mx5, effOp, endCall, callOp, appendOp, sliceLV, Ty.fieldTy, Ty.fieldOf, Nat.reduceLT, Nat.reduceEqDiff, Nat.reduceAdd, Nat.reduceMul, Nat.reduceSub, Nat.reduceLeDiff, Nat.reduceBEq, Nat.reduceBNe, reduceIte, reduceDIte, reduceCtorEq]; rfl) ?_ ?_
  · intro hb0
    try simp only [decide_eq_true_eq, decide_eq_false_iff_not, beq_iff_eq, bne_iff_ne, Bool.not_eq_true', Bool.and_eq_true] at hb0
    refine r_seq ?_
    refine r_region hG (by simp only [hT, tab31, mx0, mx1, mx2, mx3, mx4, mx5, effOp, endCall, callOp, appendOp, sliceLV, Ty.fieldTy, Ty.fieldOf, Nat.reduceLT, Nat.reduceEqDiff, Nat.reduceAdd, Nat.reduceMul, Nat.reduceSub, Nat.reduceLeDiff, Nat.reduceBEq, Nat.reduceBNe, reduceIte, reduceDIte, reduceCtorEq]; rfl) ?_ ?_ -- R2
    · trivial
    refine k_seq ?_
    refine r_ret ?_
    refine k_block_ret ?_
    refine k_seq_ret ?_
    refine ⟨[], ?_⟩
    simp only [hT, tab31, mr0, mr1, mr2, Nat.reduceLT, Nat.reduceEqDiff, Nat.reduceAdd, Nat.reduceMul, Nat.reduceSub, Nat.reduceLeDiff, Nat.reduceBEq, Nat.reduceBNe, reduceIte, reduceDIte, reduceCtorEq]
    rw [cmpI, if_neg (by have := (dec_sign hC).1.1 hb0; omega), if_neg (by have := (dec_sign hC).1.1 hb0; omega)]
  · intro hb0
    try simp only [decide_eq_true_eq, decide_eq_false_iff_not, beq_eq_false_iff_ne, bne_eq_false_iff_eq, Bool.not_eq_false', Bool.and_eq_false_imp] at hb0
    refine r_seq ?_
    refine r_region hG (by simp only [hT, tab31, mx0, mx1, mx2, mx3, mx4, mx5, effOp, endCall, callOp, appendOp, sliceLV, Ty.fieldTy, Ty.fieldOf, Nat.reduceLT, Nat.reduceEqDiff, Nat.reduceAdd, Nat.reduceMul, Nat.reduceSub, Nat.reduceLeDiff, Nat.reduceBEq, Nat.reduceBNe, reduceIte, reduceDIte, reduceCtorEq]; rfl) ?_ ?_ -- R3
    · trivial
    refine k_seq ?_
    refine r_cond (by simp only [hT, tab31, mx0, mx1, mx2, mx3, mx4, mx5, effOp, endCall, callOp, appendOp, sliceLV, Ty.fieldTy, Ty.fieldOf, Nat.reduceLT, Nat.reduceEqDiff, Nat.reduceAdd, Nat.reduceMul, Nat.reduceSub, Nat.reduceLeDiff, Nat.reduceBEq, Nat.reduceBNe, reduceIte, reduceDIte, reduceCtorEq]; rfl) ?_ ?_
    · intro hb1
      try simp only [decide_eq_true_eq, decide_eq_false_iff_not, beq_iff_eq, bne_iff_ne, Bool.not_eq_true', Bool.and_eq_true] at hb1
      refine r_seq ?_
      refine r_region hG (by simp only [hT, tab31, mx0, mx1, mx2, mx3, mx4, mx5, effOp, endCall, callOp, appendOp, sliceLV, Ty.fieldTy, Ty.fieldOf, Nat.reduceLT, Nat.reduceEqDiff, Nat.reduceAdd, Nat.reduceMul, Nat.reduceSub, Nat.reduceLeDiff, Nat.reduceBEq, Nat.reduceBNe, reduceIte, reduceDIte, reduceCtorEq]; rfl) ?_ ?_ -- R4
      · trivial
      refine k_seq ?_
      refine r_ret ?_
      refine k_block_ret ?_
      refine k_seq_ret ?_
      refine ⟨[], ?_⟩
      simp only [hT, tab31, mr0, mr1, mr2, Nat.reduceLT, Nat.reduceEqDiff, Nat.reduceAdd, Nat.reduceMul, Nat.reduceSub, Nat.reduceLeDiff, Nat.reduceBEq, Nat.reduceBNe, reduceIte, reduceDIte, reduceCtorEq]
      rw [cmpI, if_pos (((dec_sign hC).2 hb0).1 hb1)]
    · intro hb1
      try simp only [decide_eq_true_eq, decide_eq_false_iff_not, beq_eq_false_iff_ne, bne_eq_false_iff_eq, Bool.not_eq_false', Bool.and_eq_false_imp] at hb1
      refine r_skip ?_
      refine k_block ?_
      refine k_seq ?_
      refine r_seq ?_
      refine r_region hG (by simp only [hT, tab31, mx0, mx1, mx2, mx3, mx4, mx5, effOp, endCall, callOp, appendOp, sliceLV, Ty.fieldTy, Ty.fieldOf, Nat.reduceLT, Nat.reduceEqDiff, Nat.reduceAdd, Nat.reduceMul, Nat.reduceSub, Nat.reduceLeDiff, Nat.reduceBEq, Nat.reduceBNe, reduceIte, reduceDIte, reduceCtorEq]; rfl) ?_ ?_ -- R5
      · trivial
      refine k_seq ?_
      refine r_ret ?_
      refine ⟨[], ?_⟩
      simp only [hT, tab31, mr0, mr1, mr2, Nat.reduceLT, Nat.reduceEqDiff, Nat.reduceAdd, Nat.reduceMul, Nat.reduceSub, Nat.reduceLeDiff, Nat.reduceBEq, Nat.reduceBNe, reduceIte, reduceDIte, reduceCtorEq]
      have := ((dec_sign hC).2 hb0).2 hb1
      rw [cmpI, if_neg (by omega), if_pos this]

def tab51 (B : Base) : Tab := { types := [(3, (.int .i64)), (53, (.slice (.int .u32))), (82, (.int .u32))], elems := [], cons := [(58, cCmpi), (66, cCmpu)], hint := [], N := 35, base := B }
theorem good51 {B : Base} (hB : Tabs B) : MGood Tryd.prog (tab51 B) := ⟨⟨types_cons ty3 (types_cons ty53 (types_cons ty82 (types_nil))), elems_nil, by simp only [tab51, ioB]; omega⟩, cons_ok (cals_cons (cal_ok Tryd.func58 (by kernel_rfl) rfl (valid58 hB)) (cals_cons (cal_ok Tryd.func66 (by kernel_rfl) rfl (valid66 hB)) (cals_nil))), by kernel_rfl⟩
def cCompare : Con := fun l os => match l, os with
  | [.z (.slice (.int .u32)) m, .z (.slice (.int .u32)) o], [] => some (Cano m ∧ Cano o ∧ m.length + o.length < CAP, [.z (.int .i64) (cmpI (valL m) (valL o))], [])
  | _, _ => none

theorem valid51 {B : Base} (hB : Tabs B) : Valid B Tryd.prog 51 cCompare := by
  refine valid_of_J (T := tab51 B) (good51 hB).tab Tryd.func51 rfl rfl rfl ?_
  intro args os C rs os' hc hC
  unfold cCompare at hc
  split at hc
  case h_2 => cases hc
  rename_i m o
  cases hc
  refine ⟨by simp only [List.length_cons, List.length_nil, tab51]; omega, rfl, ?_⟩
  intro X hP hT hr
  have hG : MGood X.P X.T := by rw [hP, hT]; exact good51 hB
  simp only [Tryd.f51, argEnv, ioList, ioB]
  refine r_seq ?_
  refine r_region hG (by simp only [hT, tab51, cCmpi, cCmpu, mx0, mx1, mx2, mx3, mx4, mx5, effOp, endCall, callOp, appendOp, sliceLV, Ty.fieldTy, Ty.fieldOf, Nat.reduceLT, Nat.reduceEqDiff, Nat.reduceAdd, Nat.reduceMul, Nat.reduceSub, Nat.reduceLeDiff, Nat.reduceBEq, Nat.reduceBNe, reduceIte, reduceDIte, reduceCtorEq]; rfl) ?_ ?_ -- R0
  · trivial
  refine k_seq ?_
  refine r_seq ?_
  refine r_seq ?_
  refine r_region hG (by simp only [hT, tab51, cCmpi, cCmpu, mx0, mx1, mx2, mx3, mx4, mx5, effOp, endCall, callOp, appendOp, sliceLV, Ty.fieldTy, Ty.fieldOf, Nat.reduceLT, Nat.reduceEqDiff, Nat.reduceAdd, Nat.reduceMul, Nat.reduceSub, Nat.reduceLeDiff, Nat.reduceBEq, Nat.reduceBNe, reduceIte, reduceDIte, reduceCtorEq]; rfl) ?_ ?_ -- R1
  · trivial
  refine k_seq ?_
  refine r_seq ?_
  refine r_region hG (by simp only [hT, tab51, cCmpi, cCmpu, mx0, mx1, mx2, mx3, mx4, mx5, effOp, endCall, callOp, appendOp, sliceLV, Ty.fieldTy, Ty.fieldOf, Nat.reduceLT, Nat.reduceEqDiff, Nat.reduceAdd, Nat.reduceMul, Nat.reduceSub, Nat.reduceLeDiff, Nat.reduceBEq, Nat.reduceBNe, reduceIte, reduceDIte, reduceCtorEq]; rfl) ?_ ?_ -- R2
  · trivial
  refine k_seq ?_
  refine r_cond (by simp only [hT, tab51, mx0, mx1, mx2, mx3, mx4, mx5, effOp, endCall, callOp, appendOp, sliceLV, Ty.fieldTy, Ty.fieldOf, Nat.reduceLT, Nat.reduceEqDiff, Nat.reduceAdd, Nat.reduceMul, Nat.reduceSub, Nat.reduceLeDiff, Nat.reduceBEq, Nat.reduceBNe, reduceIte, reduceDIte, reduceCtorEq]; rfl) ?_ ?_
  · intro hb0
    try simp only [decide_eq_true_eq, decide_eq_false_iff_not, beq_iff_eq, bne_iff_ne, Bool.not_eq_true', Bool.and_eq_true] at hb0
    refine r_seq ?_
    refine r_region hG (by simp only [hT, tab51, cCmpi, cCmpu, mx0, mx1, mx2, mx3, mx4, mx5, effOp, endCall, callOp, appendOp, sliceLV, Ty.fieldTy, Ty.fieldOf, Nat.reduceLT, Nat.reduceEqDiff, Nat.reduceAdd, Nat.reduceMul, Nat.reduceSub, Nat.reduceLeDiff, Nat.reduceBEq, Nat.reduceBNe, reduceIte, reduceDIte, reduceCtorEq]; rfl) ?_ ?_ -- R3
    · trivial
    refine k_seq ?_
    refine r_ret ?_
    refine k_seq_ret ?_
    refine ⟨[], ?_⟩
    simp only [hT, tab51, mr0, mr1, mr2, Nat.reduceLT, Nat.reduceEqDiff, Nat.reduceAdd, Nat.reduceMul, Nat.reduceSub, Nat.reduceLeDiff, Nat.reduceBEq, Nat.reduceBNe, reduceIte, reduceDIte, reduceCtorEq]
    exact cmp_lens hC.1 hC.2.1 hb0
  · intro hb0
    try simp only [decide_eq_true_eq, decide_eq_false_iff_not, bne_eq_false_iff_eq] at hb0
    obtain ⟨c1, c2, c3⟩ := hC
    have c3 : List.length m + List.length o < 1000000000000 := c3
    have hl : List.length m = List.length o := by have := cmpI_eq.1 hb0; omega
    refine r_skip ?_
    refine k_seq ?_
    refine r_seq ?_
    refine r_seq ?_
    refine r_region hG (by simp only [hT, tab51, cCmpi, cCmpu, mx0, mx1, mx2, mx3, mx4, mx5, effOp, endCall, callOp, appendOp, sliceLV, Ty.fieldTy, Ty.fieldOf, Nat.reduceLT, Nat.reduceEqDiff, Nat.reduceAdd, Nat.reduceMul, Nat.reduceSub, Nat.reduceLeDiff, Nat.reduceBEq, Nat.reduceBNe, reduceIte, reduceDIte, reduceCtorEq]; rfl) ?_ ?_ -- R4
    · trivial
    refine k_seq ?_
    refine j_block ?_
    refine j_loop (fun (z : Nat) => (⟨[(0, .l (.z (.slice (.int .u32)) m)), (1, .l (.z (.slice (.int .u32)) o)), (6, .l (.z (.int .i64) ((z : Int) - 1)))], []⟩ : AState)) (fun z => z ≤ List.length m ∧ List.drop z m = List.drop z o) (fun z => z) (List.length m) ?_ ?_ ?_
    · simp only [ml0, ml1, Nat.reduceLT, Nat.reduceEqDiff, Nat.reduceAdd, Nat.reduceMul, Nat.reduceSub, Nat.reduceLeDiff, Nat.reduceBEq, Nat.reduceBNe, reduceIte, reduceDIte, reduceCtorEq]
      exact wi (by omega) (by omega)
    · exact ⟨Nat.le_refl _, by rw [List.drop_length, List.drop_of_length_le (by omega)]⟩
    · rintro k ⟨g1, g2⟩
      try dsimp only at g1 g2
      refine r_seq ?_
      refine r_seq ?_
      refine r_region hG (by simp only [hT, tab51, cCmpi, cCmpu, mx0, mx1, mx2, mx3, mx4, mx5, effOp, endCall, callOp, appendOp, sliceLV, Ty.fieldTy, Ty.fieldOf, Nat.reduceLT, Nat.reduceEqDiff, Nat.reduceAdd, Nat.reduceMul, Nat.reduceSub, Nat.reduceLeDiff, Nat.reduceBEq, Nat.reduceBNe, reduceIte, reduceDIte, reduceCtorEq]; rfl) ?_ ?_ -- R5
      · trivial
      refine k_seq ?_
      refine r_cond (by simp only [hT, tab51, mx0, mx1, mx2, mx3, mx4, mx5, effOp, endCall, callOp, appendOp, sliceLV, Ty.fieldTy, Ty.fieldOf, Nat.reduceLT, Nat.reduceEqDiff, Nat.reduceAdd, Nat.reduceMul, Nat.reduceSub, Nat.reduceLeDiff, Nat.reduceBEq, Nat.reduceBNe, reduceIte, reduceDIte, reduceCtorEq]; rfl) ?_ ?_
      · intro hb1
        try simp only [decide_eq_true_eq, decide_eq_false_iff_not, beq_iff_eq, bne_iff_ne, Bool.not_eq_true', Bool.and_eq_true] at hb1
        refine r_skip ?_
        refine k_seq ?_
        refine r_seq ?_
        refine j_block ?_
        refine r_seq ?_
        refine r_draw hG (by simp only [hT, mt0, tab51, cCmpi, cCmpu, mx0, mx1, mx2, mx3, mx4, mx5, effOp, endCall, callOp, appendOp, sliceLV, Ty.fieldTy, Ty.fieldOf, Nat.reduceLT, Nat.reduceEqDiff, Nat.reduceAdd, Nat.reduceMul, Nat.reduceSub, Nat.reduceLeDiff, Nat.reduceBEq, Nat.reduceBNe, reduceIte, reduceDIte, reduceCtorEq]; rfl) (by kernel_rfl) (by rfl) (by rfl) ?_ ?_ -- R7
        · try simp only [and_true, true_and]
          omega
        refine k_seq ?_
        refine r_seq ?_
        refine r_region hG (by simp only [hT, tab51, cCmpi, cCmpu, mx0, mx1, mx2, mx3, mx4, mx5, effOp, endCall, callOp, appendOp, sliceLV, Ty.fieldTy, Ty.fieldOf, Nat.reduceLT, Nat.reduceEqDiff, Nat.reduceAdd, Nat.reduceMul, Nat.reduceSub, Nat.reduceLeDiff, Nat.reduceBEq, Nat.reduceBNe, reduceIte, reduceDIte, reduceCtorEq]; rfl) ?_ ?_ -- R8
        · trivial
        refine k_seq ?_
        refine r_cond (by simp only [hT, tab51, mx0, mx1, mx2, mx3, mx4, mx5, effOp, endCall, callOp, appendOp, sliceLV, Ty.fieldTy, Ty.fieldOf, Nat.reduceLT, Nat.reduceEqDiff, Nat.reduceAdd, Nat.reduceMul, Nat.reduceSub, Nat.reduceLeDiff, Nat.reduceBEq, Nat.reduceBNe, reduceIte, reduceDIte, reduceCtorEq]; rfl) ?_ ?_
        · intro hb2
          try simp only [decide_eq_true_eq, decide_eq_false_iff_not, beq_iff_eq, bne_iff_ne, Bool.not_eq_true', Bool.and_eq_true] at hb2
          refine r_seq ?_
          refine r_region hG (by simp only [hT, tab51, cCmpi, cCmpu, mx0, mx1, mx2, mx3, mx4, mx5, effOp, endCall, callOp, appendOp, sliceLV, Ty.fieldTy, Ty.fieldOf, Nat.reduceLT, Nat.reduceEqDiff, Nat.reduceAdd, Nat.reduceMul, Nat.reduceSub, Nat.reduceLeDiff, Nat.reduceBEq, Nat.reduceBNe, reduceIte, reduceDIte, reduceCtorEq]; rfl) ?_ ?_ -- R9
          · trivial
          refine k_seq ?_
          refine r_ret ?_
          refine k_block_ret ?_
          refine k_seq_ret ?_
          refine k_round_ret ?_
          refine k_block_ret ?_
          refine k_seq_ret ?_
          refine ⟨[], ?_⟩
          simp only [hT, tab51, mr0, mr1, mr2, Nat.reduceLT, Nat.reduceEqDiff, Nat.reduceAdd, Nat.reduceMul, Nat.reduceSub, Nat.reduceLeDiff, Nat.reduceBEq, Nat.reduceBNe, reduceIte, reduceDIte, reduceCtorEq]
          obtain ⟨j, rfl⟩ : ∃ j, k = j + 1 := ⟨k - 1, by omega⟩
          have hk : ((j + 1 : Nat) : Int) - 1 = (j : Int) := by omega
          rw [hk] at hb2 ⊢
          exact cmp_place (k := j) c1 c2 hl (by omega) g2 hb2
        · intro hb2
          try simp only [decide_eq_true_eq, decide_eq_false_iff_not, beq_eq_false_iff_ne, bne_eq_false_iff_eq, Bool.not_eq_false', Bool.and_eq_false_imp] at hb2
          refine r_skip ?_
          refine k_block ?_
          refine k_seq ?_
          refine r_region hG (by simp only [hT, tab51, cCmpi, cCmpu, mx0, mx1, mx2, mx3, mx4, mx5, effOp, endCall, callOp, appendOp, sliceLV, Ty.fieldTy, Ty.fieldOf, Nat.reduceLT, Nat.reduceEqDiff, Nat.reduceAdd, Nat.reduceMul, Nat.reduceSub, Nat.reduceLeDiff, Nat.reduceBEq, Nat.reduceBNe, reduceIte, reduceDIte, reduceCtorEq]; rfl) ?_ ?_ -- R6
          · trivial
          show ∃ z, _
          simp only [ml0, ml1, Nat.reduceLT, Nat.reduceEqDiff, Nat.reduceAdd, Nat.reduceMul, Nat.reduceSub, Nat.reduceLeDiff, Nat.reduceBEq, Nat.reduceBNe, reduceIte, reduceDIte, reduceCtorEq]
          have hk : (k : Int) - 1 = ((k - 1 : Nat) : Int) := by omega
          refine ⟨k - 1, by rw [hk, wi (by omega) (by omega)], by omega, ?_, by omega⟩
          refine drop_step (k := k - 1) hl (by omega) (by rw [show k - 1 + 1 = k by omega]; exact g2) ?_
          rw [hk] at hb2
          exact cmpI_eq.1 hb2
      · intro hb1
        try simp only [decide_eq_true_eq, decide_eq_false_iff_not, beq_eq_false_iff_ne, bne_eq_false_iff_eq, Bool.not_eq_false', Bool.and_eq_false_imp] at hb1
        refine r_exit ?_
        refine k_seq_exit ?_
        refine k_round_exit ?_
        refine k_block_exit ?_
        refine k_seq ?_
        refine r_seq ?_
        refine r_region hG (by simp only [hT, tab51, cCmpi, cCmpu, mx0, mx1, mx2, mx3, mx4, mx5, effOp, endCall, callOp, appendOp, sliceLV, Ty.fieldTy, Ty.fieldOf, Nat.reduceLT, Nat.reduceEqDiff, Nat.reduceAdd, Nat.reduceMul, Nat.reduceSub, Nat.reduceLeDiff, Nat.reduceBEq, Nat.reduceBNe, reduceIte, reduceDIte, reduceCtorEq]; rfl) ?_ ?_ -- R10
        · trivial
        refine k_seq ?_
        refine r_ret ?_
        refine ⟨[], ?_⟩
        simp only [hT, tab51, mr0, mr1, mr2, Nat.reduceLT, Nat.reduceEqDiff, Nat.reduceAdd, Nat.reduceMul, Nat.reduceSub, Nat.reduceLeDiff, Nat.reduceBEq, Nat.reduceBNe, reduceIte, reduceDIte, reduceCtorEq]
        have : k = 0 := by omega
        subst this
        simp only [List.drop_zero] at g2
        rw [g2]; simp [cmpI]

def tab52 (B : Base) : Tab := { types := [(2, (.int .i64)), (3, (.int .i64)), (53, (.slice (.int .u32))), (82, (.int .u32))], elems := [(53, 82)], cons := [], hint := [], N := 46, base := B }
theorem good52 {B : Base} (hB : Tabs B) : MGood Tryd.prog (tab52 B) := ⟨⟨types_cons ty2 (types_cons ty3 (types_cons ty53 (types_cons ty82 (types_nil)))), elems_cons (by kernel_rfl) (elems_nil), by simp only [tab52, ioB]; omega⟩, cons_nil rfl, by kernel_rfl⟩
def cMinus : Con := fun l os => match l, os with
  | [.z (.slice (.int .u32)) m, .z (.slice (.int .u32)) o], [] => some (Cano m ∧ Cano o ∧ valL o ≤ valL m ∧ m.length < CAP, [.z (.slice (.int .u32)) (padL (valL m - valL o).toNat m.length)], [])
  | _, _ => none

theorem valid52 {B : Base} (hB : Tabs B) : Valid B Tryd.prog 52 cMinus := by
  refine valid_of_J (T := tab52 B) (good52 hB).tab Tryd.func52 rfl rfl rfl ?_
  intro args os C rs os' hc hC
  unfold cMinus at hc
  split at hc
  case h_2 => cases hc
  rename_i m o
  cases hc
  refine ⟨by simp only [List.length_cons, List.length_nil, tab52]; omega, rfl, ?_⟩
  intro X hP hT hr
  have hG : MGood X.P X.T := by rw [hP, hT]; exact good52 hB
  simp only [Tryd.f52, argEnv, ioList, ioB]
  refine r_seq ?_
  refine r_region hG (by simp only [hT, tab52, mx0, mx1, mx2, mx3, mx4, mx5, effOp, endCall, callOp, appendOp, sliceLV, Ty.fieldTy, Ty.fieldOf, Nat.reduceLT, Nat.reduceEqDiff, Nat.reduceAdd, Nat.reduceMul, Nat.reduceSub, Nat.reduceLeDiff, Nat.reduceBEq, Nat.reduceBNe, reduceIte, reduceDIte, reduceCtorEq]; rfl) ?_ ?_ -- R0
  · trivial
  refine k_seq ?_
  refine r_seq ?_
  refine r_region hG (by simp only [hT, tab52, mx0, mx1, mx2, mx3, mx4, mx5, effOp, endCall, callOp, appendOp, sliceLV, Ty.fieldTy, Ty.fieldOf, Nat.reduceLT, Nat.reduceEqDiff, Nat.reduceAdd, Nat.reduceMul, Nat.reduceSub, Nat.reduceLeDiff, Nat.reduceBEq, Nat.reduceBNe, reduceIte, reduceDIte, reduceCtorEq]; rfl) ?_ ?_ -- R1
  · try simp only [and_true, true_and]
    exact ⟨by omega, by omega, by have : List.length m < 1000000000000 := hC.2.2.2; unfold Cm.Roomy; omega⟩
  refine k_seq ?_
  refine r_seq ?_
  refine r_region hG (by simp only [hT, tab52, mx0, mx1, mx2, mx3, mx4, mx5, effOp, endCall, callOp, appendOp, sliceLV, Ty.fieldTy, Ty.fieldOf, Nat.reduceLT, Nat.reduceEqDiff, Nat.reduceAdd, Nat.reduceMul, Nat.reduceSub, Nat.reduceLeDiff, Nat.reduceBEq, Nat.reduceBNe, reduceIte, reduceDIte, reduceCtorEq]; rfl) ?_ ?_ -- R2
  · trivial
  refine k_seq ?_
  refine r_seq ?_
  refine r_seq ?_
  refine r_region hG (by simp only [hT, tab52, mx0, mx1, mx2, mx3, mx4, mx5, effOp, endCall, callOp, appendOp, sliceLV, Ty.fieldTy, Ty.fieldOf, Nat.reduceLT, Nat.reduceEqDiff, Nat.reduceAdd, Nat.reduceMul, Nat.reduceSub, Nat.reduceLeDiff, Nat.reduceBEq, Nat.reduceBNe, reduceIte, reduceDIte, reduceCtorEq]; rfl) ?_ ?_ -- R3
  · trivial
  refine k_seq ?_
  refine j_block ?_
  refine j_loop (fun (z : Nat × Int × List Int) => (⟨[(1, .l (.z (.slice (.int .u32)) o)), (5, .l (.ownS 12)), (6, .l (.z (.int .i64) z.2.1)), (13, .l (.z (.slice (.int .u32)) m)), (14, .l (.z (.int .i64) (List.length m : Int))), (15, .l (.z (.int .i64) (z.1 : Int)))], [(12, .arr (.int .u32) 82 z.2.2)]⟩ : AState)) (fun z => z.1 ≤ List.length m ∧ z.2.2.length = z.1 ∧ Lim z.2.2 ∧ 0 ≤ z.2.1 ∧ z.2.1 ≤ 1 ∧ valL z.2.2 + valL (List.take z.1 o) = valL (List.take z.1 m) + LB ^ z.1 * z.2.1) (fun z => List.length m - z.1) (0, 0, []) ?_ ?_ ?_
  · simp only [ml0, ml1, Nat.reduceLT, Nat.reduceEqDiff, Nat.reduceAdd, Nat.reduceMul, Nat.reduceSub, Nat.reduceLeDiff, Nat.reduceBEq, Nat.reduceBNe, reduceIte, reduceDIte, reduceCtorEq]
    exact ⟨rfl, rfl⟩
  · simp [Lim, valL]
  · rintro ⟨k, b, out⟩ ⟨g1, g2, g3, g4, g5, g6⟩
    try dsimp only at g1 g2 g3 g4 g5 g6
    obtain ⟨c1, c2, c3, c4⟩ := hC
    have c4 : List.length m < 1000000000000 := c4
    have hx := c1.1.getD k
    have hy := c2.1.getD k
    have hB : LB = 1000000000 := rfl
    refine r_seq ?_
    refine r_region hG (by simp only [hT, tab52, mx0, mx1, mx2, mx3, mx4, mx5, effOp, endCall, callOp, appendOp, sliceLV, Ty.fieldTy, Ty.fieldOf, Nat.reduceLT, Nat.reduceEqDiff, Nat.reduceAdd, Nat.reduceMul, Nat.reduceSub, Nat.reduceLeDiff, Nat.reduceBEq, Nat.reduceBNe, reduceIte, reduceDIte, reduceCtorEq]; rfl) ?_ ?_ -- R4
    · trivial
    refine k_seq ?_
    refine r_seq ?_
    refine r_cond (by simp only [hT, tab52, mx0, mx1, mx2, mx3, mx4, mx5, effOp, endCall, callOp, appendOp, sliceLV, Ty.fieldTy, Ty.fieldOf, Nat.reduceLT, Nat.reduceEqDiff, Nat.reduceAdd, Nat.reduceMul, Nat.reduceSub, Nat.reduceLeDiff, Nat.reduceBEq, Nat.reduceBNe, reduceIte, reduceDIte, reduceCtorEq]; rfl) ?_ ?_
    · intro hb0
      try simp only [decide_eq_true_eq, decide_eq_false_iff_not, beq_iff_eq, bne_iff_ne, Bool.not_eq_true', Bool.and_eq_true] at hb0
      refine r_skip ?_
      refine k_seq ?_
      refine r_seq ?_
      refine j_block ?_
      refine r_seq ?_
      refine r_region hG (by simp only [hT, tab52, mx0, mx1, mx2, mx3, mx4, mx5, effOp, endCall, callOp, appendOp, sliceLV, Ty.fieldTy, Ty.fieldOf, Nat.reduceLT, Nat.reduceEqDiff, Nat.reduceAdd, Nat.reduceMul, Nat.reduceSub, Nat.reduceLeDiff, Nat.reduceBEq, Nat.reduceBNe, reduceIte, reduceDIte, reduceCtorEq]; rfl) ?_ ?_ -- R5
      · try simp only [and_true, true_and]
        exact ⟨by omega, by omega⟩
      refine k_seq ?_
      refine r_seq ?_
      refine r_region hG (by simp only [hT, tab52, mx0, mx1, mx2, mx3, mx4, mx5, effOp, endCall, callOp, appendOp, sliceLV, Ty.fieldTy, Ty.fieldOf, Nat.reduceLT, Nat.reduceEqDiff, Nat.reduceAdd, Nat.reduceMul, Nat.reduceSub, Nat.reduceLeDiff, Nat.reduceBEq, Nat.reduceBNe, reduceIte, reduceDIte, reduceCtorEq]; rfl) ?_ ?_ -- R6
      · trivial
      refine k_seq ?_
      refine r_cut (fun (z : Int) => (⟨[(1, .l (.z (.slice (.int .u32)) o)), (5, .l (.ownS 12)), (9, .l (.z (.int .i64) z)), (13, .l (.z (.slice (.int .u32)) m)), (14, .l (.z (.int .i64) (List.length m : Int))), (15, .l (.z (.int .i64) (k : Int)))], [(12, .arr (.int .u32) 82 out)]⟩ : AState)) (fun z => z = List.getD m k 0 - b - List.getD o k 0) ?_ ?_
      · refine r_seq ?_
        refine r_region hG (by simp only [hT, tab52, mx0, mx1, mx2, mx3, mx4, mx5, effOp, endCall, callOp, appendOp, sliceLV, Ty.fieldTy, Ty.fieldOf, Nat.reduceLT, Nat.reduceEqDiff, Nat.reduceAdd, Nat.reduceMul, Nat.reduceSub, Nat.reduceLeDiff, Nat.reduceBEq, Nat.reduceBNe, reduceIte, reduceDIte, reduceCtorEq]; rfl) ?_ ?_ -- R7
        · trivial
        refine k_seq ?_
        refine r_cond (by simp only [hT, tab52, mx0, mx1, mx2, mx3, mx4, mx5, effOp, endCall, callOp, appendOp, sliceLV, Ty.fieldTy, Ty.fieldOf, Nat.reduceLT, Nat.reduceEqDiff, Nat.reduceAdd, Nat.reduceMul, Nat.reduceSub, Nat.reduceLeDiff, Nat.reduceBEq, Nat.reduceBNe, reduceIte, reduceDIte, reduceCtorEq]; rfl) ?_ ?_
        · intro hb1
          try simp only [decide_eq_true_eq, decide_eq_false_iff_not, beq_iff_eq, bne_iff_ne, Bool.not_eq_true', Bool.and_eq_true] at hb1
          refine r_region hG (by simp only [hT, tab52, mx0, mx1, mx2, mx3, mx4, mx5, effOp, endCall, callOp, appendOp, sliceLV, Ty.fieldTy, Ty.fieldOf, Nat.reduceLT, Nat.reduceEqDiff, Nat.reduceAdd, Nat.reduceMul, Nat.reduceSub, Nat.reduceLeDiff, Nat.reduceBEq, Nat.reduceBNe, reduceIte, reduceDIte, reduceCtorEq]; rfl) ?_ ?_ -- R8
          · try simp only [and_true, true_and]
            exact ⟨by omega, by omega⟩
          show ∃ z, _
          simp only [ml0, ml1, Nat.reduceLT, Nat.reduceEqDiff, Nat.reduceAdd, Nat.reduceMul, Nat.reduceSub, Nat.reduceLeDiff, Nat.reduceBEq, Nat.reduceBNe, reduceIte, reduceDIte, reduceCtorEq]
          rw [nth32, wi (x := List.getD m k 0) (by omega) (by omega), wi (x := List.getD m k 0 - b) (by omega) (by omega)]
          first | (rw [nth32, wi (x := List.getD o k 0) (by omega) (by omega)]; exact wi (by omega) (by omega)) | (rw [List.getD_eq_getElem?_getD (l := o), List.getElem?_eq_none (by omega)]; simp)
        · intro hb1
          try simp only [decide_eq_true_eq, decide_eq_false_iff_not, beq_eq_false_iff_ne, bne_eq_false_iff_eq, Bool.not_eq_false', Bool.and_eq_false_imp] at hb1
          refine r_skip ?_
          show ∃ z, _
          simp only [ml0, ml1, Nat.reduceLT, Nat.reduceEqDiff, Nat.reduceAdd, Nat.reduceMul, Nat.reduceSub, Nat.reduceLeDiff, Nat.reduceBEq, Nat.reduceBNe, reduceIte, reduceDIte, reduceCtorEq]
          rw [nth32, wi (x := List.getD m k 0) (by omega) (by omega), wi (x := List.getD m k 0 - b) (by omega) (by omega)]
          first | (rw [nth32, wi (x := List.getD o k 0) (by omega) (by omega)]; exact wi (by omega) (by omega)) | (rw [List.getD_eq_getElem?_getD (l := o), List.getElem?_eq_none (by omega)]; simp)
      rintro n hn
      try dsimp only at hn
      refine r_seq ?_
      refine r_region hG (by simp only [hT, tab52, mx0, mx1, mx2, mx3, mx4, mx5, effOp, endCall, callOp, appendOp, sliceLV, Ty.fieldTy, Ty.fieldOf, Nat.reduceLT, Nat.reduceEqDiff, Nat.reduceAdd, Nat.reduceMul, Nat.reduceSub, Nat.reduceLeDiff, Nat.reduceBEq, Nat.reduceBNe, reduceIte, reduceDIte, reduceCtorEq]; rfl) ?_ ?_ -- R9
      · trivial
      refine k_seq ?_
      refine r_cut (fun (z : Int × Int) => (⟨[(1, .l (.z (.slice (.int .u32)) o)), (5, .l (.ownS 12)), (6, .l (.z (.int .i64) z.2)), (9, .l (.z (.int .i64) z.1)), (13, .l (.z (.slice (.int .u32)) m)), (14, .l (.z (.int .i64) (List.length m : Int))), (15, .l (.z (.int .i64) (k : Int)))], [(12, .arr (.int .u32) 82 out)]⟩ : AState)) (fun z => 0 ≤ z.1 ∧ z.1 < LB ∧ 0 ≤ z.2 ∧ z.2 ≤ 1 ∧ z.1 - LB * z.2 = n) ?_ ?_
      · refine r_seq ?_
        refine r_region hG (by simp only [hT, tab52, mx0, mx1, mx2, mx3, mx4, mx5, effOp, endCall, callOp, appendOp, sliceLV, Ty.fieldTy, Ty.fieldOf, Nat.reduceLT, Nat.reduceEqDiff, Nat.reduceAdd, Nat.reduceMul, Nat.reduceSub, Nat.reduceLeDiff, Nat.reduceBEq, Nat.reduceBNe, reduceIte, reduceDIte, reduceCtorEq]; rfl) ?_ ?_ -- R10
        · trivial
        refine k_seq ?_
        refine r_cond (by simp only [hT, tab52, mx0, mx1, mx2, mx3, mx4, mx5, effOp, endCall, callOp, appendOp, sliceLV, Ty.fieldTy, Ty.fieldOf, Nat.reduceLT, Nat.reduceEqDiff, Nat.reduceAdd, Nat.reduceMul, Nat.reduceSub, Nat.reduceLeDiff, Nat.reduceBEq, Nat.reduceBNe, reduceIte, reduceDIte, reduceCtorEq]; rfl) ?_ ?_
        · intro hb2
          try simp only [decide_eq_true_eq, decide_eq_false_iff_not, beq_iff_eq, bne_iff_ne, Bool.not_eq_true', Bool.and_eq_true] at hb2
          refine r_region hG (by simp only [hT, tab52, mx0, mx1, mx2, mx3, mx4, mx5, effOp, endCall, callOp, appendOp, sliceLV, Ty.fieldTy, Ty.fieldOf, Nat.reduceLT, Nat.reduceEqDiff, Nat.reduceAdd, Nat.reduceMul, Nat.reduceSub, Nat.reduceLeDiff, Nat.reduceBEq, Nat.reduceBNe, reduceIte, reduceDIte, reduceCtorEq]; rfl) ?_ ?_ -- R11
          · trivial
          show ∃ z, _
          simp only [ml0, ml1, Nat.reduceLT, Nat.reduceEqDiff, Nat.reduceAdd, Nat.reduceMul, Nat.reduceSub, Nat.reduceLeDiff, Nat.reduceBEq, Nat.reduceBNe, reduceIte, reduceDIte, reduceCtorEq]
          first | (rw [wi (by omega) (by omega)]; exact ⟨by omega, by omega, by omega, by omega, by omega⟩) | exact ⟨by omega, by omega, by omega, by omega, by omega⟩
        · intro hb2
          try simp only [decide_eq_true_eq, decide_eq_false_iff_not, beq_eq_false_iff_ne, bne_eq_false_iff_eq, Bool.not_eq_false', Bool.and_eq_false_imp] at hb2
          refine r_skip ?_
          show ∃ z, _
          simp only [ml0, ml1, Nat.reduceLT, Nat.reduceEqDiff, Nat.reduceAdd, Nat.reduceMul, Nat.reduceSub, Nat.reduceLeDiff, Nat.reduceBEq, Nat.reduceBNe, reduceIte, reduceDIte, reduceCtorEq]
          first | (rw [wi (by omega) (by omega)]; exact ⟨by omega, by omega, by omega, by omega, by omega⟩) | exact ⟨by omega, by omega, by omega, by omega, by omega⟩
      rintro ⟨n2, b2⟩ hn2
      try dsimp only at hn2
      refine r_region hG (by simp only [hT, tab52, mx0, mx1, mx2, mx3, mx4, mx5, effOp, endCall, callOp, appendOp, sliceLV, Ty.fieldTy, Ty.fieldOf, Nat.reduceLT, Nat.reduceEqDiff, Nat.reduceAdd, Nat.reduceMul, Nat.reduceSub, Nat.reduceLeDiff, Nat.reduceBEq, Nat.reduceBNe, reduceIte, reduceDIte, reduceCtorEq]; rfl) ?_ ?_ -- R12
      · try simp only [and_true, true_and]
        unfold Cm.Roomy; omega
      refine k_block ?_
      refine k_seq ?_
      refine r_region hG (by simp only [hT, tab52, mx0, mx1, mx2, mx3, mx4, mx5, effOp, endCall, callOp, appendOp, sliceLV, Ty.fieldTy, Ty.fieldOf, Nat.reduceLT, Nat.reduceEqDiff, Nat.reduceAdd, Nat.reduceMul, Nat.reduceSub, Nat.reduceLeDiff, Nat.reduceBEq, Nat.reduceBNe, reduceIte, reduceDIte, reduceCtorEq]; rfl) ?_ ?_ -- R13
      · trivial
      show ∃ z, _
      simp only [ml0, ml1, Nat.reduceLT, Nat.reduceEqDiff, Nat.reduceAdd, Nat.reduceMul, Nat.reduceSub, Nat.reduceLeDiff, Nat.reduceBEq, Nat.reduceBNe, reduceIte, reduceDIte, reduceCtorEq]
      obtain ⟨hn1, hn2, hn3, hn4, hn5⟩ := hn2
      rw [w32 hn1 (by omega)]
      obtain ⟨q1, q2⟩ := minus_round (b := b) g2 g3 g6 hn1 hn2 (b' := b2) (by omega)
      exact ⟨k + 1, by rw [wi (by omega) (by omega)]; simp, by omega, by simp [g2], q1, hn3, hn4, q2, by omega⟩
    · intro hb0
      try simp only [decide_eq_true_eq, decide_eq_false_iff_not, beq_eq_false_iff_ne, bne_eq_false_iff_eq, Bool.not_eq_false', Bool.and_eq_false_imp] at hb0
      refine r_exit ?_
      refine k_seq_exit ?_
      refine k_round_exit ?_
      refine k_block_exit ?_
      refine k_seq ?_
      refine r_seq ?_
      refine r_region hG (by simp only [hT, tab52, mx0, mx1, mx2, mx3, mx4, mx5, effOp, endCall, callOp, appendOp, sliceLV, Ty.fieldTy, Ty.fieldOf, Nat.reduceLT, Nat.reduceEqDiff, Nat.reduceAdd, Nat.reduceMul, Nat.reduceSub, Nat.reduceLeDiff, Nat.reduceBEq, Nat.reduceBNe, reduceIte, reduceDIte, reduceCtorEq]; rfl) ?_ ?_ -- R14
      · trivial
      refine k_seq ?_
      refine r_ret ?_
      refine ⟨[], ?_⟩
      simp only [hT, tab52, mr0, mr1, mr2, Nat.reduceLT, Nat.reduceEqDiff, Nat.reduceAdd, Nat.reduceMul, Nat.reduceSub, Nat.reduceLeDiff, Nat.reduceBEq, Nat.reduceBNe, reduceIte, reduceDIte, reduceCtorEq]
      have hk : k = List.length m := by omega
      subst hk
      exact minus_end c1 c2 c3 g2 g3 g4 (by rw [List.take_length] at g6; exact g6)

def tab26 (B : Base) : Tab := { types := [(3, (.int .i64)), (4, .bool), (53, (.slice (.int .u32))), (55, (.st (.pair .bool (.slice (.int .u32)))))], elems := [], cons := [(49, cWhole), (50, cPlus), (51, cCompare), (52, cMinus)], hint := [], N := 42, base := B }
theorem good26 {B : Base} (hB : Tabs B) : MGood Tryd.prog (tab26 B) := ⟨⟨types_cons ty3 (types_cons ty4 (types_cons ty53 (types_cons ty55 (types_nil)))), elems_nil, by simp only [tab26, ioB]; omega⟩, cons_ok (cals_cons (cal_ok Tryd.func49 (by kernel_rfl) rfl (valid49 hB)) (cals_cons (cal_ok Tryd.func50 (by kernel_rfl) rfl (valid50 hB)) (cals_cons (cal_ok Tryd.func51 (by kernel_rfl) rfl (valid51 hB)) (cals_cons (cal_ok Tryd.func52 (by kernel_rfl) rfl (valid52 hB)) (cals_nil))))), by kernel_rfl⟩
def cAdd : Con := fun l os => match l, os with
  | [.z (.st (.pair .bool (.slice (.int .u32)))) x, .z (.st (.pair .bool (.slice (.int .u32)))) y], [] => some (WOK x ∧ WOK y ∧ x.2.length + y.2.length < CAP, [.z (.st (.pair .bool (.slice (.int .u32)))) (enc (dec x + dec y))], [])
  | _, _ => none

theorem valid26 {B : Base} (hB : Tabs B) : Valid B Tryd.prog 26 cAdd := by
  refine valid_of_J (T := tab26 B) (good26 hB).tab Tryd.func26 rfl rfl rfl ?_
  intro args os C rs os' hc hC
  unfold cAdd at hc
  split at hc
  case h_2 => cases hc
  rename_i x y
  cases hc
  refine ⟨by simp only [List.length_cons, List.length_nil, tab26]; omega, rfl, ?_⟩
  intro X hP hT hr
  have hG : MGood X.P X.T := by rw [hP, hT]; exact good26 hB
  simp only [Tryd.f26, argEnv, ioList, ioB]
  refine r_seq ?_
  refine r_region hG (by simp only [hT, tab26, cWhole, cPlus, cCompare, cMinus, mx0, mx1, mx2, mx3, mx4, mx5, effOp, endCall, callOp, appendOp, sliceLV, Ty.fieldTy, Ty.fieldOf, Nat.reduceLT, Nat.reduceEqDiff, Nat.reduceAdd, Nat.reduceMul, Nat.reduceSub, Nat.reduceLeDiff, Nat.reduceBEq, Nat.reduceBNe, reduceIte, reduceDIte, reduceCtorEq]; rfl) ?_ ?_ -- R0
  · trivial
  refine k_seq ?_
  refine r_seq ?_
  refine j_block ?_
  refine r_seq ?_
  refine r_region hG (by simp only [hT, tab26, cWhole, cPlus, cCompare, cMinus, mx0, mx1, mx2, mx3, mx4, mx5, effOp, endCall, callOp, appendOp, sliceLV, Ty.fieldTy, Ty.fieldOf, Nat.reduceLT, Nat.reduceEqDiff, Nat.reduceAdd, Nat.reduceMul, Nat.reduceSub, Nat.reduceLeDiff, Nat.reduceBEq, Nat.reduceBNe, reduceIte, reduceDIte, reduceCtorEq]; rfl) ?_ ?_ -- R1
  · trivial
  refine k_seq ?_
  refine r_cond (by simp only [hT, tab26, mx0, mx1, mx2, mx3, mx4, mx5, effOp, endCall, callOp, appendOp, sliceLV, Ty.fieldTy, Ty.fieldOf, Nat.reduceLT, Nat.reduceEqDiff, Nat.reduceAdd, Nat.reduceMul, Nat.reduceSub, Nat.reduceLeDiff, Nat.reduceBEq, Nat.reduceBNe, reduceIte, reduceDIte, reduceCtorEq]; rfl) ?_ ?_
  · intro hb0
    try simp only [decide_eq_true_eq, decide_eq_false_iff_not, beq_iff_eq, bne_iff_ne, Bool.not_eq_true', Bool.and_eq_true] at hb0
    refine r_seq ?_
    refine r_draw hG (by simp only [hT, mt0, tab26, cWhole, cPlus, cCompare, cMinus, mx0, mx1, mx2, mx3, mx4, mx5, effOp, endCall, callOp, appendOp, sliceLV, Ty.fieldTy, Ty.fieldOf, Nat.reduceLT, Nat.reduceEqDiff, Nat.reduceAdd, Nat.reduceMul, Nat.reduceSub, Nat.reduceLeDiff, Nat.reduceBEq, Nat.reduceBNe, reduceIte, reduceDIte, reduceCtorEq]; rfl) (by kernel_rfl) (by rfl) (by rfl) ?_ ?_ -- R2
    · try simp only [and_true, true_and]
      obtain ⟨c1, c2, c3⟩ := hC
      exact ⟨⟨c1.1, c2.1, c3⟩, (limbs_can _).1, Nat.lt_of_le_of_lt (plus_len c1.1 c2.1) c3⟩
    refine k_seq ?_
    refine r_ret ?_
    refine k_block_ret ?_
    refine k_seq_ret ?_
    refine ⟨[], ?_⟩
    simp only [hT, tab26, mr0, mr1, mr2, Nat.reduceLT, Nat.reduceEqDiff, Nat.reduceAdd, Nat.reduceMul, Nat.reduceSub, Nat.reduceLeDiff, Nat.reduceBEq, Nat.reduceBNe, reduceIte, reduceDIte, reduceCtorEq]
    exact add_same hC.1 hC.2.1 hb0
  · intro hb0
    try simp only [decide_eq_true_eq, decide_eq_false_iff_not, beq_eq_false_iff_ne, bne_eq_false_iff_eq, Bool.not_eq_false', Bool.and_eq_false_imp] at hb0
    refine r_seq ?_
    refine r_region hG (by simp only [hT, tab26, cWhole, cPlus, cCompare, cMinus, mx0, mx1, mx2, mx3, mx4, mx5, effOp, endCall, callOp, appendOp, sliceLV, Ty.fieldTy, Ty.fieldOf, Nat.reduceLT, Nat.reduceEqDiff, Nat.reduceAdd, Nat.reduceMul, Nat.reduceSub, Nat.reduceLeDiff, Nat.reduceBEq, Nat.reduceBNe, reduceIte, reduceDIte, reduceCtorEq]; rfl) ?_ ?_ -- R3
    · try simp only [and_true, true_and]
      obtain ⟨c1, c2, c3⟩ := hC
      exact ⟨c1.1, c2.1, c3⟩
    refine k_seq ?_
    refine r_cond (by simp only [hT, tab26, mx0, mx1, mx2, mx3, mx4, mx5, effOp, endCall, callOp, appendOp, sliceLV, Ty.fieldTy, Ty.fieldOf, Nat.reduceLT, Nat.reduceEqDiff, Nat.reduceAdd, Nat.reduceMul, Nat.reduceSub, Nat.reduceLeDiff, Nat.reduceBEq, Nat.reduceBNe, reduceIte, reduceDIte, reduceCtorEq]; rfl) ?_ ?_
    · intro hb1
      try simp only [decide_eq_true_eq, decide_eq_false_iff_not, beq_iff_eq, bne_iff_ne, Bool.not_eq_true', Bool.and_eq_true] at hb1
      refine r_seq ?_
      refine r_draw hG (by simp only [hT, mt0, tab26, cWhole, cPlus, cCompare, cMinus, mx0, mx1, mx2, mx3, mx4, mx5, effOp, endCall, callOp, appendOp, sliceLV, Ty.fieldTy, Ty.fieldOf, Nat.reduceLT, Nat.reduceEqDiff, Nat.reduceAdd, Nat.reduceMul, Nat.reduceSub, Nat.reduceLeDiff, Nat.reduceBEq, Nat.reduceBNe, reduceIte, reduceDIte, reduceCtorEq]; rfl) (by kernel_rfl) (by rfl) (by rfl) ?_ ?_ -- R4
      · try simp only [and_true, true_and]
        obtain ⟨c1, c2, c3⟩ := hC
        rw [cmpI_neg] at hb1
        exact ⟨⟨c2.1, c1.1, by omega, by omega⟩, padL_lim _ _, by rw [padL_len]; omega⟩
      refine k_seq ?_
      refine r_ret ?_
      refine k_block_ret ?_
      refine k_seq_ret ?_
      refine ⟨[], ?_⟩
      simp only [hT, tab26, mr0, mr1, mr2, Nat.reduceLT, Nat.reduceEqDiff, Nat.reduceAdd, Nat.reduceMul, Nat.reduceSub, Nat.reduceLeDiff, Nat.reduceBEq, Nat.reduceBNe, reduceIte, reduceDIte, reduceCtorEq]
      rw [cmpI_neg] at hb1
      rw [add_less (fun e => hb0 e.symm) (minus_val hC.2.1.1 hC.1.1 (by omega)), Int.add_comm]
    · intro hb1
      try simp only [decide_eq_true_eq, decide_eq_false_iff_not, beq_eq_false_iff_ne, bne_eq_false_iff_eq, Bool.not_eq_false', Bool.and_eq_false_imp] at hb1
      refine r_skip ?_
      refine k_block ?_
      refine k_seq ?_
      refine r_seq ?_
      refine r_draw hG (by simp only [hT, mt0, tab26, cWhole, cPlus, cCompare, cMinus, mx0, mx1, mx2, mx3, mx4, mx5, effOp, endCall, callOp, appendOp, sliceLV, Ty.fieldTy, Ty.fieldOf, Nat.reduceLT, Nat.reduceEqDiff, Nat.reduceAdd, Nat.reduceMul, Nat.reduceSub, Nat.reduceLeDiff, Nat.reduceBEq, Nat.reduceBNe, reduceIte, reduceDIte, reduceCtorEq]; rfl) (by kernel_rfl) (by rfl) (by rfl) ?_ ?_ -- R5
      · try simp only [and_true, true_and]
        obtain ⟨c1, c2, c3⟩ := hC
        rw [cmpI_neg] at hb1
        exact ⟨⟨c1.1, c2.1, by omega, by omega⟩, padL_lim _ _, by rw [padL_len]; omega⟩
      refine k_seq ?_
      refine r_ret ?_
      refine ⟨[], ?_⟩
      simp only [hT, tab26, mr0, mr1, mr2, Nat.reduceLT, Nat.reduceEqDiff, Nat.reduceAdd, Nat.reduceMul, Nat.reduceSub, Nat.reduceLeDiff, Nat.reduceBEq, Nat.reduceBNe, reduceIte, reduceDIte, reduceCtorEq]
      rw [cmpI_neg] at hb1
      exact add_less hb0 (minus_val hC.1.1 hC.2.1.1 (by omega))

def tab29 (B : Base) : Tab := { types := [(55, (.st (.pair .bool (.slice (.int .u32)))))], elems := [], cons := [(26, cAdd), (53, cNeg)], hint := [], N := 9, base := B }
theorem good29 {B : Base} (hB : Tabs B) : MGood Tryd.prog (tab29 B) := ⟨⟨types_cons ty55 (types_nil), elems_nil, by simp only [tab29, ioB]; omega⟩, cons_ok (cals_cons (cal_ok Tryd.func26 (by kernel_rfl) rfl (valid26 hB)) (cals_cons (cal_ok Tryd.func53 (by kernel_rfl) rfl (valid53 hB)) (cals_nil))), by kernel_rfl⟩
def cSub : Con := fun l os => match l, os with
  | [.z (.st (.pair .bool (.slice (.int .u32)))) x, .z (.st (.pair .bool (.slice (.int .u32)))) y], [] => some (WOK x ∧ WOK y ∧ x.2.length + y.2.length < CAP, [.z (.st (.pair .bool (.slice (.int .u32)))) (enc (dec x - dec y))], [])
  | _, _ => none

theorem valid29 {B : Base} (hB : Tabs B) : Valid B Tryd.prog 29 cSub := by
  refine valid_of_J (T := tab29 B) (good29 hB).tab Tryd.func29 rfl rfl rfl ?_
  intro args os C rs os' hc hC
  unfold cSub at hc
  split at hc
  case h_2 => cases hc
  rename_i x y
  cases hc
  refine ⟨by simp only [List.length_cons, List.length_nil, tab29]; omega, rfl, ?_⟩
  intro X hP hT hr
  have hG : MGood X.P X.T := by rw [hP, hT]; exact good29 hB
  simp only [Tryd.f29, argEnv, ioList, ioB]
  refine r_seq ?_
  refine r_region hG (by simp only [hT, tab29, cNeg, cAdd, mx0, mx1, mx2, mx3, mx4, mx5, effOp, endCall, callOp, appendOp, sliceLV, Ty.fieldTy, Ty.fieldOf, Nat.reduceLT, Nat.reduceEqDiff, Nat.reduceAdd, Nat.reduceMul, Nat.reduceSub, Nat.reduceLeDiff, Nat.reduceBEq, Nat.reduceBNe, reduceIte, reduceDIte, reduceCtorEq]; rfl) ?_ ?_ -- R0
  · trivial
  refine k_seq ?_
  refine r_seq ?_
  refine r_draw hG (by simp only [hT, mt0, tab29, cNeg, cAdd, mx0, mx1, mx2, mx3, mx4, mx5, effOp, endCall, callOp, appendOp, sliceLV, Ty.fieldTy, Ty.fieldOf, Nat.reduceLT, Nat.reduceEqDiff, Nat.reduceAdd, Nat.reduceMul, Nat.reduceSub, Nat.reduceLeDiff, Nat.reduceBEq, Nat.reduceBNe, reduceIte, reduceDIte, reduceCtorEq]; rfl) (by kernel_rfl) (by rfl) (by rfl) ?_ ?_ -- R1
  · try simp only [and_true, true_and]
    obtain ⟨c1, c2, c3⟩ := hC
    exact ⟨⟨c2.1.1, by omega⟩, c1, enc_ok _, by rw [neg_len c2]; exact c3⟩
  refine k_seq ?_
  refine r_ret ?_
  refine ⟨[], ?_⟩
  simp only [hT, tab29, mr0, mr1, mr2, Nat.reduceLT, Nat.reduceEqDiff, Nat.reduceAdd, Nat.reduceMul, Nat.reduceSub, Nat.reduceLeDiff, Nat.reduceBEq, Nat.reduceBNe, reduceIte, reduceDIte, reduceCtorEq]
  rw [dec_enc]; rfl

def tab27 (B : Base) : Tab := { types := [(3, (.int .i64)), (4, .bool), (53, (.slice (.int .u32))), (55, (.st (.pair .bool (.slice (.int .u32))))), (82, (.int .u32)), (83, (.int .u64))], elems := [(53, 82)], cons := [(49, cWhole)], hint := [], N := 79, base := B }
theorem good27 {B : Base} (hB : Tabs B) : MGood Tryd.prog (tab27 B) := ⟨⟨types_cons ty3 (types_cons ty4 (types_cons ty53 (types_cons ty55 (types_cons ty82 (types_cons ty83 (types_nil)))))), elems_cons (by kernel_rfl) (elems_nil), by simp only [tab27, ioB]; omega⟩, cons_ok (cals_cons (cal_ok Tryd.func49 (by kernel_rfl) rfl (valid49 hB)) (cals_nil)), by kernel_rfl⟩
def cMul : Con := fun l os => match l, os with
  | [.z (.st (.pair .bool (.slice (.int .u32)))) x, .z (.st (.pair .bool (.slice (.int .u32)))) y], [] => some (WOK x ∧ WOK y ∧ x.2.length + y.2.length < CAP, [.z (.st (.pair .bool (.slice (.int .u32)))) (enc (dec x * dec y))], [])
  | _, _ => none

theorem valid27 {B : Base} (hB : Tabs B) : Valid B Tryd.prog 27 cMul := by
  refine valid_of_J (T := tab27 B) (good27 hB).tab Tryd.func27 rfl rfl rfl ?_
  intro args os C rs os' hc hC
  unfold cMul at hc
  split at hc
  case h_2 => cases hc
  rename_i x y
  cases hc
  refine ⟨by simp only [List.length_cons, List.length_nil, tab27]; omega, rfl, ?_⟩
  intro X hP hT hr
  have hG : MGood X.P X.T := by rw [hP, hT]; exact good27 hB
  simp only [Tryd.f27, argEnv, ioList, ioB]
  refine r_seq ?_
  refine r_region hG (by simp only [hT, tab27, cWhole, mx0, mx1, mx2, mx3, mx4, mx5, effOp, endCall, callOp, appendOp, sliceLV, Ty.fieldTy, Ty.fieldOf, Nat.reduceLT, Nat.reduceEqDiff, Nat.reduceAdd, Nat.reduceMul, Nat.reduceSub, Nat.reduceLeDiff, Nat.reduceBEq, Nat.reduceBNe, reduceIte, reduceDIte, reduceCtorEq]; rfl) ?_ ?_ -- R0
  · trivial
  refine k_seq ?_
  refine r_seq ?_
  refine r_region hG (by simp only [hT, tab27, cWhole, mx0, mx1, mx2, mx3, mx4, mx5, effOp, endCall, callOp, appendOp, sliceLV, Ty.fieldTy, Ty.fieldOf, Nat.reduceLT, Nat.reduceEqDiff, Nat.reduceAdd, Nat.reduceMul, Nat.reduceSub, Nat.reduceLeDiff, Nat.reduceBEq, Nat.reduceBNe, reduceIte, reduceDIte, reduceCtorEq]; rfl) ?_ ?_ -- R1
  · try simp only [and_true, true_and]
    have c3 : List.length x.2 + List.length y.2 < 1000000000000 := hC.2.2
    rw [wi (by omega) (by omega)]
    exact ⟨by omega, by omega, by unfold Cm.Roomy; omega⟩
  refine k_seq ?_
  refine r_seq ?_
  refine r_seq ?_
  refine r_region hG (by simp only [hT, tab27, cWhole, mx0, mx1, mx2, mx3, mx4, mx5, effOp, endCall, callOp, appendOp, sliceLV, Ty.fieldTy, Ty.fieldOf, Nat.reduceLT, Nat.reduceEqDiff, Nat.reduceAdd, Nat.reduceMul, Nat.reduceSub, Nat.reduceLeDiff, Nat.reduceBEq, Nat.reduceBNe, reduceIte, reduceDIte, reduceCtorEq]; rfl) ?_ ?_ -- R2
  · trivial
  refine k_seq ?_
  refine j_block ?_
  refine j_loop (fun (z : Nat × List Int) => (⟨[(2, .l (.z (.ptr (.st (.pair .bool (.slice (.int .u32))))) x)), (3, .l (.z (.ptr (.st (.pair .bool (.slice (.int .u32))))) y)), (4, .l (.ownP 4 0)), (5, .l (.ownS 19)), (21, .l (.z (.slice (.int .u32)) x.2)), (22, .l (.z (.int .i64) (List.length x.2 : Int))), (23, .l (.z (.int .i64) (z.1 : Int)))], [(19, .arr (.int .u32) 82 z.2), (4, .box 55 [.z .bool false, .val (.slice none 0 0)])]⟩ : AState)) (fun z => z.1 ≤ List.length x.2 ∧ z.2.length = List.length x.2 + List.length y.2 ∧ Lim z.2 ∧ valL z.2 = valL (List.take z.1 x.2) * valL y.2 ∧ ∀ j, z.1 + List.length y.2 ≤ j → z.2.getD j 0 = 0) (fun z => List.length x.2 - z.1) (0, List.replicate (List.length x.2 + List.length y.2) 0) ?_ ?_ ?_
  · simp only [ml0, ml1, Nat.reduceLT, Nat.reduceEqDiff, Nat.reduceAdd, Nat.reduceMul, Nat.reduceSub, Nat.reduceLeDiff, Nat.reduceBEq, Nat.reduceBNe, reduceIte, reduceDIte, reduceCtorEq]
    have c3 : List.length x.2 + List.length y.2 < 1000000000000 := hC.2.2
    rw [wi (by omega) (by omega)]
    exact ⟨rfl, by congr 1⟩
  · obtain ⟨r1, r2, r3⟩ := replicate_zero (List.length x.2 + List.length y.2)
    exact ⟨by simp, by simp, r1, by simp [r2, valL], fun j _ => r3 j⟩
  · rintro ⟨i, out⟩ ⟨g1, g2, g3, g4, g5⟩
    try dsimp only at g1 g2 g3 g4 g5
    obtain ⟨c1, c2, c3⟩ := hC
    have c3 : List.length x.2 + List.length y.2 < 1000000000000 := c3
    have hB : LB = 1000000000 := rfl
    refine r_seq ?_
    refine r_region hG (by simp only [hT, tab27, cWhole, mx0, mx1, mx2, mx3, mx4, mx5, effOp, endCall, callOp, appendOp, sliceLV, Ty.fieldTy, Ty.fieldOf, Nat.reduceLT, Nat.reduceEqDiff, Nat.reduceAdd, Nat.reduceMul, Nat.reduceSub, Nat.reduceLeDiff, Nat.reduceBEq, Nat.reduceBNe, reduceIte, reduceDIte, reduceCtorEq]; rfl) ?_ ?_ -- R3
    · trivial
    refine k_seq ?_
    refine r_seq ?_
    refine r_cond (by simp only [hT, tab27, mx0, mx1, mx2, mx3, mx4, mx5, effOp, endCall, callOp, appendOp, sliceLV, Ty.fieldTy, Ty.fieldOf, Nat.reduceLT, Nat.reduceEqDiff, Nat.reduceAdd, Nat.reduceMul, Nat.reduceSub, Nat.reduceLeDiff, Nat.reduceBEq, Nat.reduceBNe, reduceIte, reduceDIte, reduceCtorEq]; rfl) ?_ ?_
    · intro hb0
      try simp only [decide_eq_true_eq, decide_eq_false_iff_not, beq_iff_eq, bne_iff_ne, Bool.not_eq_true', Bool.and_eq_true] at hb0
      refine r_skip ?_
      refine k_seq ?_
      refine r_seq ?_
      refine j_block ?_
      refine r_seq ?_
      refine r_region hG (by simp only [hT, tab27, cWhole, mx0, mx1, mx2, mx3, mx4, mx5, effOp, endCall, callOp, appendOp, sliceLV, Ty.fieldTy, Ty.fieldOf, Nat.reduceLT, Nat.reduceEqDiff, Nat.reduceAdd, Nat.reduceMul, Nat.reduceSub, Nat.reduceLeDiff, Nat.reduceBEq, Nat.reduceBNe, reduceIte, reduceDIte, reduceCtorEq]; rfl) ?_ ?_ -- R4
      · try simp only [and_true, true_and]
        omega
      refine k_seq ?_
      refine r_seq ?_
      refine r_region hG (by simp only [hT, tab27, cWhole, mx0, mx1, mx2, mx3, mx4, mx5, effOp, endCall, callOp, appendOp, sliceLV, Ty.fieldTy, Ty.fieldOf, Nat.reduceLT, Nat.reduceEqDiff, Nat.reduceAdd, Nat.reduceMul, Nat.reduceSub, Nat.reduceLeDiff, Nat.reduceBEq, Nat.reduceBNe, reduceIte, reduceDIte, reduceCtorEq]; rfl) ?_ ?_ -- R5
      · trivial
      refine k_seq ?_
      refine r_seq ?_
      refine r_seq ?_
      refine r_region hG (by simp only [hT, tab27, cWhole, mx0, mx1, mx2, mx3, mx4, mx5, effOp, endCall, callOp, appendOp, sliceLV, Ty.fieldTy, Ty.fieldOf, Nat.reduceLT, Nat.reduceEqDiff, Nat.reduceAdd, Nat.reduceMul, Nat.reduceSub, Nat.reduceLeDiff, Nat.reduceBEq, Nat.reduceBNe, reduceIte, reduceDIte, reduceCtorEq]; rfl) ?_ ?_ -- R6
      · trivial
      refine k_seq ?_
      refine j_block ?_
      refine j_loop (fun (z : Nat × Int × List Int) => (⟨[(2, .l (.z (.ptr (.st (.pair .bool (.slice (.int .u32))))) x)), (3, .l (.z (.ptr (.st (.pair .bool (.slice (.int .u32))))) y)), (4, .l (.ownP 4 0)), (5, .l (.ownS 19)), (6, .l (.z (.int .i64) (i : Int))), (7, .l (.z (.int .u32) (List.getD x.2 i 0))), (8, .l (.z (.int .u64) z.2.1)), (21, .l (.z (.slice (.int .u32)) x.2)), (22, .l (.z (.int .i64) (List.length x.2 : Int))), (23, .l (.z (.int .i64) (i : Int))), (29, .l (.z (.slice (.int .u32)) y.2)), (30, .l (.z (.int .i64) (List.length y.2 : Int))), (31, .l (.z (.int .i64) (z.1 : Int)))], [(19, .arr (.int .u32) 82 z.2.2), (4, .box 55 [.z .bool false, .val (.slice none 0 0)])]⟩ : AState)) (fun z => z.1 ≤ List.length y.2 ∧ z.2.2.length = List.length x.2 + List.length y.2 ∧ Lim z.2.2 ∧ 0 ≤ z.2.1 ∧ z.2.1 < LB ∧ valL z.2.2 + LB ^ (i + z.1) * z.2.1 = valL (List.take i x.2) * valL y.2 + LB ^ i * (List.getD x.2 i 0 * valL (List.take z.1 y.2)) ∧ ∀ j, i + List.length y.2 ≤ j → z.2.2.getD j 0 = 0) (fun z => List.length y.2 - z.1) (0, 0, out) ?_ ?_ ?_
      · simp only [ml0, ml1, Nat.reduceLT, Nat.reduceEqDiff, Nat.reduceAdd, Nat.reduceMul, Nat.reduceSub, Nat.reduceLeDiff, Nat.reduceBEq, Nat.reduceBNe, reduceIte, reduceDIte, reduceCtorEq]
        exact ⟨rfl, rfl⟩
      · exact ⟨by simp, g2, g3, by simp, by simp; decide, by simp [valL, g4], g5⟩
      · rintro ⟨k, c, out2⟩ ⟨k1, k2, k3, k4, k5, k6, k7⟩
        try dsimp only at k1 k2 k3 k4 k5 k6 k7
        have e1 : IntKind.i64.wrap ((i : Int) + (k : Int)) = ((i + k : Nat) : Int) := by rw [wi (by omega) (by omega)]; omega
        refine r_seq ?_
        refine r_region hG (by simp only [hT, tab27, cWhole, mx0, mx1, mx2, mx3, mx4, mx5, effOp, endCall, callOp, appendOp, sliceLV, Ty.fieldTy, Ty.fieldOf, Nat.reduceLT, Nat.reduceEqDiff, Nat.reduceAdd, Nat.reduceMul, Nat.reduceSub, Nat.reduceLeDiff, Nat.reduceBEq, Nat.reduceBNe, reduceIte, reduceDIte, reduceCtorEq]; rfl) ?_ ?_ -- R7
        · trivial
        refine k_seq ?_
        refine r_seq ?_
        refine r_cond (by simp only [hT, tab27, mx0, mx1, mx2, mx3, mx4, mx5, effOp, endCall, callOp, appendOp, sliceLV, Ty.fieldTy, Ty.fieldOf, Nat.reduceLT, Nat.reduceEqDiff, Nat.reduceAdd, Nat.reduceMul, Nat.reduceSub, Nat.reduceLeDiff, Nat.reduceBEq, Nat.reduceBNe, reduceIte, reduceDIte, reduceCtorEq]; rfl) ?_ ?_
        · intro hb1
          try simp only [decide_eq_true_eq, decide_eq_false_iff_not, beq_iff_eq, bne_iff_ne, Bool.not_eq_true', Bool.and_eq_true] at hb1
          refine r_skip ?_
          refine k_seq ?_
          refine r_seq ?_
          refine j_block ?_
          refine r_seq ?_
          refine r_region hG (by simp only [hT, tab27, cWhole, mx0, mx1, mx2, mx3, mx4, mx5, effOp, endCall, callOp, appendOp, sliceLV, Ty.fieldTy, Ty.fieldOf, Nat.reduceLT, Nat.reduceEqDiff, Nat.reduceAdd, Nat.reduceMul, Nat.reduceSub, Nat.reduceLeDiff, Nat.reduceBEq, Nat.reduceBNe, reduceIte, reduceDIte, reduceCtorEq]; rfl) ?_ ?_ -- R8
          · try simp only [and_true, true_and]
            omega
          refine k_seq ?_
          refine r_cut (fun (z : Int) => (⟨[(2, .l (.z (.ptr (.st (.pair .bool (.slice (.int .u32))))) x)), (3, .l (.z (.ptr (.st (.pair .bool (.slice (.int .u32))))) y)), (4, .l (.ownP 4 0)), (5, .l (.ownS 19)), (6, .l (.z (.int .i64) (i : Int))), (7, .l (.z (.int .u32) (List.getD x.2 i 0))), (9, .l (.z (.int .i64) (k : Int))), (11, .l (.z (.int .u64) z)), (21, .l (.z (.slice (.int .u32)) x.2)), (22, .l (.z (.int .i64) (List.length x.2 : Int))), (23, .l (.z (.int .i64) (i : Int))), (29, .l (.z (.slice (.int .u32)) y.2)), (30, .l (.z (.int .i64) (List.length y.2 : Int))), (31, .l (.z (.int .i64) (k : Int)))], [(19, .arr (.int .u32) 82 out2), (4, .box 55 [.z .bool false, .val (.slice none 0 0)])]⟩ : AState)) (fun z => z = List.getD x.2 i 0 * List.getD y.2 k 0 + out2.getD (i + k) 0 + c) ?_ ?_
          · refine r_region hG (by simp only [hT, tab27, cWhole, mx0, mx1, mx2, mx3, mx4, mx5, effOp, endCall, callOp, appendOp, sliceLV, Ty.fieldTy, Ty.fieldOf, Nat.reduceLT, Nat.reduceEqDiff, Nat.reduceAdd, Nat.reduceMul, Nat.reduceSub, Nat.reduceLeDiff, Nat.reduceBEq, Nat.reduceBNe, reduceIte, reduceDIte, reduceCtorEq]; rfl) ?_ ?_ -- R9
            · try simp only [and_true, true_and]
              rw [e1]; omega
            show ∃ z, _
            simp only [ml0, ml1, Nat.reduceLT, Nat.reduceEqDiff, Nat.reduceAdd, Nat.reduceMul, Nat.reduceSub, Nat.reduceLeDiff, Nat.reduceBEq, Nat.reduceBNe, reduceIte, reduceDIte, reduceCtorEq]
            rw [e1]
            exact mul_n (c1.1.1.getD i) (c2.1.1.getD k) (k3.getD (i + k)) ⟨k4, k5⟩
          rintro n hn
          try dsimp only at hn
          refine r_region hG (by simp only [hT, tab27, cWhole, mx0, mx1, mx2, mx3, mx4, mx5, effOp, endCall, callOp, appendOp, sliceLV, Ty.fieldTy, Ty.fieldOf, Nat.reduceLT, Nat.reduceEqDiff, Nat.reduceAdd, Nat.reduceMul, Nat.reduceSub, Nat.reduceLeDiff, Nat.reduceBEq, Nat.reduceBNe, reduceIte, reduceDIte, reduceCtorEq]; rfl) ?_ ?_ -- R10
          · try simp only [and_true, true_and]
            rw [e1]; omega
          refine k_block ?_
          refine k_seq ?_
          refine r_region hG (by simp only [hT, tab27, cWhole, mx0, mx1, mx2, mx3, mx4, mx5, effOp, endCall, callOp, appendOp, sliceLV, Ty.fieldTy, Ty.fieldOf, Nat.reduceLT, Nat.reduceEqDiff, Nat.reduceAdd, Nat.reduceMul, Nat.reduceSub, Nat.reduceLeDiff, Nat.reduceBEq, Nat.reduceBNe, reduceIte, reduceDIte, reduceCtorEq]; rfl) ?_ ?_ -- R11
          · trivial
          show ∃ z, _
          simp only [ml0, ml1, Nat.reduceLT, Nat.reduceEqDiff, Nat.reduceAdd, Nat.reduceMul, Nat.reduceSub, Nat.reduceLeDiff, Nat.reduceBEq, Nat.reduceBNe, reduceIte, reduceDIte, reduceCtorEq]
          obtain ⟨m0, m1, m2, m3, m4, m5, m6, m7⟩ := mul_step c1.1.1 c2.1.1 k2 k3 k4 k5 (by omega) (by omega) k6 k7 hn
          obtain ⟨t1, t2, t3⟩ := two_limbs m0 m1
          rw [e1, t2, t3, Int.toNat_natCast]
          exact ⟨k + 1, by rw [wi (by omega) (by omega)]; simp, by omega, m2, m3, m4, m5, m6, m7, by omega⟩
        · intro hb1
          try simp only [decide_eq_true_eq, decide_eq_false_iff_not, beq_eq_false_iff_ne, bne_eq_false_iff_eq, Bool.not_eq_false', Bool.and_eq_false_imp] at hb1
          refine r_exit ?_
          refine k_seq_exit ?_
          refine k_round_exit ?_
          refine k_block_exit ?_
          refine k_seq ?_
          refine r_region hG (by simp only [hT, tab27, cWhole, mx0, mx1, mx2, mx3, mx4, mx5, effOp, endCall, callOp, appendOp, sliceLV, Ty.fieldTy, Ty.fieldOf, Nat.reduceLT, Nat.reduceEqDiff, Nat.reduceAdd, Nat.reduceMul, Nat.reduceSub, Nat.reduceLeDiff, Nat.reduceBEq, Nat.reduceBNe, reduceIte, reduceDIte, reduceCtorEq]; rfl) ?_ ?_ -- R12
          · try simp only [and_true, true_and]
            rw [wi (by omega) (by omega)]; omega
          refine k_block ?_
          refine k_seq ?_
          refine r_region hG (by simp only [hT, tab27, cWhole, mx0, mx1, mx2, mx3, mx4, mx5, effOp, endCall, callOp, appendOp, sliceLV, Ty.fieldTy, Ty.fieldOf, Nat.reduceLT, Nat.reduceEqDiff, Nat.reduceAdd, Nat.reduceMul, Nat.reduceSub, Nat.reduceLeDiff, Nat.reduceBEq, Nat.reduceBNe, reduceIte, reduceDIte, reduceCtorEq]; rfl) ?_ ?_ -- R13
          · trivial
          show ∃ z, _
          simp only [ml0, ml1, Nat.reduceLT, Nat.reduceEqDiff, Nat.reduceAdd, Nat.reduceMul, Nat.reduceSub, Nat.reduceLeDiff, Nat.reduceBEq, Nat.reduceBNe, reduceIte, reduceDIte, reduceCtorEq]
          have e1 : IntKind.i64.wrap ((i : Int) + (List.length y.2 : Int)) = ((i + List.length y.2 : Nat) : Int) := by rw [wi (by omega) (by omega)]; omega
          have hk : k = List.length y.2 := by omega
          subst hk
          rw [List.take_length] at k6
          obtain ⟨f1, f2, f3, f4⟩ := mul_row k2 k3 k4 k5 (by omega) rfl k6 k7
          rw [e1, w32 k4 (by omega), Int.toNat_natCast]
          exact ⟨i + 1, by rw [wi (by omega) (by omega)]; simp, by omega, f1, f2, f3, f4, by omega⟩
    · intro hb0
      try simp only [decide_eq_true_eq, decide_eq_false_iff_not, beq_eq_false_iff_ne, bne_eq_false_iff_eq, Bool.not_eq_false', Bool.and_eq_false_imp] at hb0
      refine r_exit ?_
      refine k_seq_exit ?_
      refine k_round_exit ?_
      refine k_block_exit ?_
      refine k_seq ?_
      refine r_seq ?_
      refine r_region hG (by simp only [hT, tab27, cWhole, mx0, mx1, mx2, mx3, mx4, mx5, effOp, endCall, callOp, appendOp, sliceLV, Ty.fieldTy, Ty.fieldOf, Nat.reduceLT, Nat.reduceEqDiff, Nat.reduceAdd, Nat.reduceMul, Nat.reduceSub, Nat.reduceLeDiff, Nat.reduceBEq, Nat.reduceBNe, reduceIte, reduceDIte, reduceCtorEq]; rfl) ?_ ?_ -- R14
      · try simp only [and_true, true_and]
        exact ⟨g3, by unfold CAP; omega⟩
      refine k_seq ?_
      refine r_ret ?_
      refine ⟨[], ?_⟩
      simp only [hT, tab27, mr0, mr1, mr2, Nat.reduceLT, Nat.reduceEqDiff, Nat.reduceAdd, Nat.reduceMul, Nat.reduceSub, Nat.reduceLeDiff, Nat.reduceBEq, Nat.reduceBNe, reduceIte, reduceDIte, reduceCtorEq]
      have hi : i = List.length x.2 := by omega
      subst hi
      rw [List.take_length] at g4
      rw [← mul_fin g4]

end Go.Proofs.YtkgbdpmhdplddaaDoor
end

section
/- The functions of the package exact, one after the other: each meets its contract. -/
set_option linter.unusedSimpArgs false
set_option linter.unusedVariables false
set_option maxRecDepth 100000
namespace Go.Proofs.YtkgbdpmhdplddaaDoor
open Go Go.Cm Go.Proofs

def tab60 (B : Base) : Tab := { types := [(3, (.int .i64)), (9, .str)], elems := [], cons := [], hint := [], N := 18, base := B }
theorem good60 {B : Base} (hB : Tabs B) : MGood Tryd.prog (tab60 B) := ⟨⟨types_cons ty3 (types_cons ty9 (types_nil)), elems_nil, by simp only [tab60, ioB]; omega⟩, cons_nil rfl, by kernel_rfl⟩
def cHasPre : Con := fun l os => match l, os with
  | [.z .str s, .z .str p], [] => some (True, [.z .bool (hasPre s p)], [])
  | _, _ => none

theorem valid60 {B : Base} (hB : Tabs B) : Valid B Tryd.prog 60 cHasPre := by
  refine valid_of_J (T := tab60 B) (good60 hB).tab Tryd.func60 rfl rfl rfl ?_
  intro args os C rs os' hc hC
  unfold cHasPre at hc
  split at hc
  case h_2 => cases hc
  rename_i s p
  cases hc
  refine ⟨by simp only [List.length_cons, List.length_nil, tab60]; omega, rfl, ?_⟩
  intro X hP hT hr
  have hG : MGood X.P X.T := by rw [hP, hT]; exact good60 hB
  simp only [Tryd.f60, argEnv, ioList, ioB]
  refine r_seq ?_
  refine r_region hG (by simp only [hT, tab60, mx0, mx1, mx2, mx3, mx4, mx5, effOp, endCall, callOp, appendOp, sliceLV, Ty.fieldTy, Ty.fieldOf, Nat.reduceLT, Nat.reduceEqDiff, Nat.reduceAdd, Nat.reduceMul, Nat.reduceSub, Nat.reduceLeDiff, Nat.reduceBEq, Nat.reduceBNe, reduceIte, reduceDIte, reduceCtorEq]; rfl) ?_ ?_ -- R0
  · trivial
  refine k_seq ?_
  refine r_seq ?_
  refine r_region hG (by simp only [hT, tab60, mx0, mx1, mx2, mx3, mx4, mx5, effOp, endCall, callOp, appendOp, sliceLV, Ty.fieldTy, Ty.fieldOf, Nat.reduceLT, Nat.reduceEqDiff, Nat.reduceAdd, Nat.reduceMul, Nat.reduceSub, Nat.reduceLeDiff, Nat.reduceBEq, Nat.reduceBNe, reduceIte, reduceDIte, reduceCtorEq]; rfl) ?_ ?_ -- R1
  · try simp only [and_true, true_and]
    (repeat' (first | apply And.intro | intro _)) <;> (try simp only [decide_eq_true_eq, decide_eq_false_iff_not, Bool.not_eq_true', beq_iff_eq, Int.toNat_natCast] at *) <;> first | assumption | omega | trivial | (simp_all; done) | (simp_all; omega)
  refine k_seq ?_
  refine r_ret ?_
  refine ⟨[], ?_⟩
  simp only [hT, tab60, mr0, mr1, mr2, Nat.reduceLT, Nat.reduceEqDiff, Nat.reduceAdd, Nat.reduceMul, Nat.reduceSub, Nat.reduceLeDiff, Nat.reduceBEq, Nat.reduceBNe, reduceIte, reduceDIte, reduceCtorEq]
  exact hasPre_eq s p

def tab40 (B : Base) : Tab := { types := [(9, .str)], elems := [], cons := [(60, cHasPre)], hint := [], N := 8, base := B }
theorem good40 {B : Base} (hB : Tabs B) : MGood Tryd.prog (tab40 B) := ⟨⟨types_cons ty9 (types_nil), elems_nil, by simp only [tab40, ioB]; omega⟩, cons_ok (cals_cons (cal_ok Tryd.func60 (by kernel_rfl) rfl (valid60 hB)) (cals_nil)), by kernel_rfl⟩
theorem valid40 {B : Base} (hB : Tabs B) : Valid B Tryd.prog 40 cHasPre := by
  refine valid_of_J (T := tab40 B) (good40 hB).tab Tryd.func40 rfl rfl rfl ?_
  intro args os C rs os' hc hC
  unfold cHasPre at hc
  split at hc
  case h_2 => cases hc
  rename_i s p
  cases hc
  refine ⟨by simp only [List.length_cons, List.length_nil, tab40]; omega, rfl, ?_⟩
  intro X hP hT hr
  have hG : MGood X.P X.T := by rw [hP, hT]; exact good40 hB
  simp only [Tryd.f40, argEnv, ioList, ioB]
  refine r_seq ?_
  refine r_region hG (by simp only [hT, tab40, cHasPre, mx0, mx1, mx2, mx3, mx4, mx5, effOp, endCall, callOp, appendOp, sliceLV, Ty.fieldTy, Ty.fieldOf, Nat.reduceLT, Nat.reduceEqDiff, Nat.reduceAdd, Nat.reduceMul, Nat.reduceSub, Nat.reduceLeDiff, Nat.reduceBEq, Nat.reduceBNe, reduceIte, reduceDIte, reduceCtorEq]; rfl) ?_ ?_ -- R0
  · trivial
  refine k_seq ?_
  refine r_seq ?_
  refine r_region hG (by simp only [hT, tab40, cHasPre, mx0, mx1, mx2, mx3, mx4, mx5, effOp, endCall, callOp, appendOp, sliceLV, Ty.fieldTy, Ty.fieldOf, Nat.reduceLT, Nat.reduceEqDiff, Nat.reduceAdd, Nat.reduceMul, Nat.reduceSub, Nat.reduceLeDiff, Nat.reduceBEq, Nat.reduceBNe, reduceIte, reduceDIte, reduceCtorEq]; rfl) ?_ ?_ -- R1
  · trivial
  refine k_seq ?_
  refine r_ret ?_
  refine ⟨[], ?_⟩
  simp only [hT, tab40, mr0, mr1, mr2, Nat.reduceLT, Nat.reduceEqDiff, Nat.reduceAdd, Nat.reduceMul, Nat.reduceSub, Nat.reduceLeDiff, Nat.reduceBEq, Nat.reduceBNe, reduceIte, reduceDIte, reduceCtorEq]
  skip

def tab36 (B : Base) : Tab := { types := [(9, .str)], elems := [], cons := [(60, cHasPre)], hint := [], N := 13, base := B }
theorem good36 {B : Base} (hB : Tabs B) : MGood Tryd.prog (tab36 B) := ⟨⟨types_cons ty9 (types_nil), elems_nil, by simp only [tab36, ioB]; omega⟩, cons_ok (cals_cons (cal_ok Tryd.func60 (by kernel_rfl) rfl (valid60 hB)) (cals_nil)), by kernel_rfl⟩
def cTrimPre : Con := fun l os => match l, os with
  | [.z .str s, .z .str p], [] => some (True, [.z .str (trimPre s p)], [])
  | _, _ => none

theorem valid36 {B : Base} (hB : Tabs B) : Valid B Tryd.prog 36 cTrimPre := by
  refine valid_of_J (T := tab36 B) (good36 hB).tab Tryd.func36 rfl rfl rfl ?_
  intro args os C rs os' hc hC
  unfold cTrimPre at hc
  split at hc
  case h_2 => cases hc
  rename_i s p
  cases hc
  refine ⟨by simp only [List.length_cons, List.length_nil, tab36]; omega, rfl, ?_⟩
  intro X hP hT hr
  have hG : MGood X.P X.T := by rw [hP, hT]; exact good36 hB
  simp only [Tryd.f36, argEnv, ioList, ioB]
  refine r_seq ?_
  refine r_region hG (by simp only [hT, tab36, cHasPre, mx0, mx1, mx2, mx3, mx4, mx5, effOp, endCall, callOp, appendOp, sliceLV, Ty.fieldTy, Ty.fieldOf, Nat.reduceLT, Nat.reduceEqDiff, Nat.reduceAdd, Nat.reduceMul, Nat.reduceSub, Nat.reduceLeDiff, Nat.reduceBEq, Nat.reduceBNe, reduceIte, reduceDIte, reduceCtorEq]; rfl) ?_ ?_ -- R0
  · trivial
  refine k_seq ?_
  refine r_seq ?_
  refine r_seq ?_
  refine r_region hG (by simp only [hT, tab36, cHasPre, mx0, mx1, mx2, mx3, mx4, mx5, effOp, endCall, callOp, appendOp, sliceLV, Ty.fieldTy, Ty.fieldOf, Nat.reduceLT, Nat.reduceEqDiff, Nat.reduceAdd, Nat.reduceMul, Nat.reduceSub, Nat.reduceLeDiff, Nat.reduceBEq, Nat.reduceBNe, reduceIte, reduceDIte, reduceCtorEq]; rfl) ?_ ?_ -- R1
  · trivial
  refine k_seq ?_
  refine r_cond (by simp only [hT, tab36, mx0, mx1, mx2, mx3, mx4, mx5, effOp, endCall, callOp, appendOp, sliceLV, Ty.fieldTy, Ty.fieldOf, Nat.reduceLT, Nat.reduceEqDiff, Nat.reduceAdd, Nat.reduceMul, Nat.reduceSub, Nat.reduceLeDiff, Nat.reduceBEq, Nat.reduceBNe, reduceIte, reduceDIte, reduceCtorEq]; rfl) ?_ ?_
  · intro hb0
    try simp only [decide_eq_true_eq, decide_eq_false_iff_not, beq_iff_eq, bne_iff_ne, Bool.not_eq_true', Bool.and_eq_true] at hb0
    refine r_seq ?_
    refine r_region hG (by simp only [hT, tab36, cHasPre, mx0, mx1, mx2, mx3, mx4, mx5, effOp, endCall, callOp, appendOp, sliceLV, Ty.fieldTy, Ty.fieldOf, Nat.reduceLT, Nat.reduceEqDiff, Nat.reduceAdd, Nat.reduceMul, Nat.reduceSub, Nat.reduceLeDiff, Nat.reduceBEq, Nat.reduceBNe, reduceIte, reduceDIte, reduceCtorEq]; rfl) ?_ ?_ -- R2
    · try simp only [and_true, true_and]
      have h := hb0
      unfold hasPre at h
      simp only [Bool.and_eq_true, decide_eq_true_eq] at h
      exact ⟨by omega, by omega, by omega⟩
    refine k_seq ?_
    refine r_ret ?_
    refine k_seq_ret ?_
    refine ⟨[], ?_⟩
    simp only [hT, tab36, mr0, mr1, mr2, Nat.reduceLT, Nat.reduceEqDiff, Nat.reduceAdd, Nat.reduceMul, Nat.reduceSub, Nat.reduceLeDiff, Nat.reduceBEq, Nat.reduceBNe, reduceIte, reduceDIte, reduceCtorEq]
    simp [trimPre, hb0]
  · intro hb0
    try simp only [decide_eq_true_eq, decide_eq_false_iff_not, beq_eq_false_iff_ne, bne_eq_false_iff_eq, Bool.not_eq_false', Bool.and_eq_false_imp] at hb0
    refine r_skip ?_
    refine k_seq ?_
    refine r_seq ?_
    refine r_region hG (by simp only [hT, tab36, cHasPre, mx0, mx1, mx2, mx3, mx4, mx5, effOp, endCall, callOp, appendOp, sliceLV, Ty.fieldTy, Ty.fieldOf, Nat.reduceLT, Nat.reduceEqDiff, Nat.reduceAdd, Nat.reduceMul, Nat.reduceSub, Nat.reduceLeDiff, Nat.reduceBEq, Nat.reduceBNe, reduceIte, reduceDIte, reduceCtorEq]; rfl) ?_ ?_ -- R3
    · trivial
    refine k_seq ?_
    refine r_ret ?_
    refine ⟨[], ?_⟩
    simp only [hT, tab36, mr0, mr1, mr2, Nat.reduceLT, Nat.reduceEqDiff, Nat.reduceAdd, Nat.reduceMul, Nat.reduceSub, Nat.reduceLeDiff, Nat.reduceBEq, Nat.reduceBNe, reduceIte, reduceDIte, reduceCtorEq]
    simp [trimPre, hb0]

def tab17 (B : Base) : Tab := { types := [(9, .str)], elems := [], cons := [(36, cTrimPre)], hint := [], N := 8, base := B }
theorem good17 {B : Base} (hB : Tabs B) : MGood Tryd.prog (tab17 B) := ⟨⟨types_cons ty9 (types_nil), elems_nil, by simp only [tab17, ioB]; omega⟩, cons_ok (cals_cons (cal_ok Tryd.func36 (by kernel_rfl) rfl (valid36 hB)) (cals_nil)), by kernel_rfl⟩
theorem valid17 {B : Base} (hB : Tabs B) : Valid B Tryd.prog 17 cTrimPre := by
  refine valid_of_J (T := tab17 B) (good17 hB).tab Tryd.func17 rfl rfl rfl ?_
  intro args os C rs os' hc hC
  unfold cTrimPre at hc
  split at hc
  case h_2 => cases hc
  rename_i s p
  cases hc
  refine ⟨by simp only [List.length_cons, List.length_nil, tab17]; omega, rfl, ?_⟩
  intro X hP hT hr
  have hG : MGood X.P X.T := by rw [hP, hT]; exact good17 hB
  simp only [Tryd.f17, argEnv, ioList, ioB]
  refine r_seq ?_
  refine r_region hG (by simp only [hT, tab17, cTrimPre, mx0, mx1, mx2, mx3, mx4, mx5, effOp, endCall, callOp, appendOp, sliceLV, Ty.fieldTy, Ty.fieldOf, Nat.reduceLT, Nat.reduceEqDiff, Nat.reduceAdd, Nat.reduceMul, Nat.reduceSub, Nat.reduceLeDiff, Nat.reduceBEq, Nat.reduceBNe, reduceIte, reduceDIte, reduceCtorEq]; rfl) ?_ ?_ -- R0
  · trivial
  refine k_seq ?_
  refine r_seq ?_
  refine r_region hG (by simp only [hT, tab17, cTrimPre, mx0, mx1, mx2, mx3, mx4, mx5, effOp, endCall, callOp, appendOp, sliceLV, Ty.fieldTy, Ty.fieldOf, Nat.reduceLT, Nat.reduceEqDiff, Nat.reduceAdd, Nat.reduceMul, Nat.reduceSub, Nat.reduceLeDiff, Nat.reduceBEq, Nat.reduceBNe, reduceIte, reduceDIte, reduceCtorEq]; rfl) ?_ ?_ -- R1
  · trivial
  refine k_seq ?_
  refine r_ret ?_
  refine ⟨[], ?_⟩
  simp only [hT, tab17, mr0, mr1, mr2, Nat.reduceLT, Nat.reduceEqDiff, Nat.reduceAdd, Nat.reduceMul, Nat.reduceSub, Nat.reduceLeDiff, Nat.reduceBEq, Nat.reduceBNe, reduceIte, reduceDIte, reduceCtorEq]
  skip

def tab61 (B : Base) : Tab := { types := [(53, (.slice (.int .u32)))], elems := [], cons := [], hint := [], N := 4, base := B }
theorem good61 {B : Base} (hB : Tabs B) : MGood Tryd.prog (tab61 B) := ⟨⟨types_cons ty53 (types_nil), elems_nil, by simp only [tab61, ioB]; omega⟩, cons_nil rfl, by kernel_rfl⟩
def cBack : Con := fun l os => match l, os with
  | [.z (.slice (.int .u32)) xs], [] => some (True, [.fn 74 [.z (.ptr (.slice (.int .u32))) xs]], [])
  | _, _ => none

theorem valid61 {B : Base} (hB : Tabs B) : Valid B Tryd.prog 61 cBack := by
  refine valid_of_J (T := tab61 B) (good61 hB).tab Tryd.func61 rfl rfl rfl ?_
  intro args os C rs os' hc hC
  unfold cBack at hc
  split at hc
  case h_2 => cases hc
  rename_i xs
  cases hc
  refine ⟨by simp only [List.length_cons, List.length_nil, tab61]; omega, rfl, ?_⟩
  intro X hP hT hr
  have hG : MGood X.P X.T := by rw [hP, hT]; exact good61 hB
  simp only [Tryd.f61, argEnv, ioList, ioB]
  refine r_seq ?_
  refine r_region hG (by simp only [hT, tab61, mx0, mx1, mx2, mx3, mx4, mx5, effOp, endCall, callOp, appendOp, sliceLV, Ty.fieldTy, Ty.fieldOf, Nat.reduceLT, Nat.reduceEqDiff, Nat.reduceAdd, Nat.reduceMul, Nat.reduceSub, Nat.reduceLeDiff, Nat.reduceBEq, Nat.reduceBNe, reduceIte, reduceDIte, reduceCtorEq]; rfl) ?_ ?_ -- R0
  · trivial
  refine k_seq ?_
  refine r_seq ?_
  refine r_region hG (by simp only [hT, tab61, mx0, mx1, mx2, mx3, mx4, mx5, effOp, endCall, callOp, appendOp, sliceLV, Ty.fieldTy, Ty.fieldOf, Nat.reduceLT, Nat.reduceEqDiff, Nat.reduceAdd, Nat.reduceMul, Nat.reduceSub, Nat.reduceLeDiff, Nat.reduceBEq, Nat.reduceBNe, reduceIte, reduceDIte, reduceCtorEq]; rfl) ?_ ?_ -- R1
  · trivial
  refine k_seq ?_
  refine r_ret ?_
  refine ⟨[], ?_⟩
  simp only [hT, tab61, mr0, mr1, mr2, Nat.reduceLT, Nat.reduceEqDiff, Nat.reduceAdd, Nat.reduceMul, Nat.reduceSub, Nat.reduceLeDiff, Nat.reduceBEq, Nat.reduceBNe, reduceIte, reduceDIte, reduceCtorEq]
  rfl

def tab34 (B : Base) : Tab := { types := [(3, (.int .i64)), (4, .bool), (53, (.slice (.int .u32))), (55, (.st (.pair .bool (.slice (.int .u32)))))], elems := [], cons := [(31, cSign), (51, cCompare), (58, cCmpi)], hint := [], N := 32, base := B }
theorem good34 {B : Base} (hB : Tabs B) : MGood Tryd.prog (tab34 B) := ⟨⟨types_cons ty3 (types_cons ty4 (types_cons ty53 (types_cons ty55 (types_nil)))), elems_nil, by simp only [tab34, ioB]; omega⟩, cons_ok (cals_cons (cal_ok Tryd.func31 (by kernel_rfl) rfl (valid31 hB)) (cals_cons (cal_ok Tryd.func51 (by kernel_rfl) rfl (valid51 hB)) (cals_cons (cal_ok Tryd.func58 (by kernel_rfl) rfl (valid58 hB)) (cals_nil)))), by kernel_rfl⟩
def cCmp : Con := fun l os => match l, os with
  | [.z (.st (.pair .bool (.slice (.int .u32)))) x, .z (.st (.pair .bool (.slice (.int .u32)))) y], [] => some (WOK x ∧ WOK y ∧ x.2.length + y.2.length < CAP, [.z (.int .i64) (cmpI (dec x) (dec y))], [])
  | _, _ => none

theorem valid34 {B : Base} (hB : Tabs B) : Valid B Tryd.prog 34 cCmp := by
  refine valid_of_J (T := tab34 B) (good34 hB).tab Tryd.func34 rfl rfl rfl ?_
  intro args os C rs os' hc hC
  unfold cCmp at hc
  split at hc
  case h_2 => cases hc
  rename_i x y
  cases hc
  refine ⟨by simp only [List.length_cons, List.length_nil, tab34]; omega, rfl, ?_⟩
  intro X hP hT hr
  have hG : MGood X.P X.T := by rw [hP, hT]; exact good34 hB
  simp only [Tryd.f34, argEnv, ioList, ioB]
  refine r_seq ?_
  refine r_region hG (by simp only [hT, tab34, cSign, cCmpi, cCompare, mx0, mx1, mx2, mx3, mx4, mx5, effOp, endCall, callOp, appendOp, sliceLV, Ty.fieldTy, Ty.fieldOf, Nat.reduceLT, Nat.reduceEqDiff, Nat.reduceAdd, Nat.reduceMul, Nat.reduceSub, Nat.reduceLeDiff, Nat.reduceBEq, Nat.reduceBNe, reduceIte, reduceDIte, reduceCtorEq]; rfl) ?_ ?_ -- R0
  · trivial
  refine k_seq ?_
  refine r_seq ?_
  refine r_seq ?_
  refine r_draw hG (by simp only [hT, mt0, tab34, cSign, cCmpi, cCompare, mx0, mx1, mx2, mx3, mx4, mx5, effOp, endCall, callOp, appendOp, sliceLV, Ty.fieldTy, Ty.fieldOf, Nat.reduceLT, Nat.reduceEqDiff, Nat.reduceAdd, Nat.reduceMul, Nat.reduceSub, Nat.reduceLeDiff, Nat.reduceBEq, Nat.reduceBNe, reduceIte, reduceDIte, reduceCtorEq]; rfl) (by kernel_rfl) (by rfl) (by rfl) ?_ ?_ -- R1
  · try simp only [and_true, true_and]
    exact ⟨hC.1, hC.2.1⟩
  refine k_seq ?_
  refine r_seq ?_
  refine r_region hG (by simp only [hT, tab34, cSign, cCmpi, cCompare, mx0, mx1, mx2, mx3, mx4, mx5, effOp, endCall, callOp, appendOp, sliceLV, Ty.fieldTy, Ty.fieldOf, Nat.reduceLT, Nat.reduceEqDiff, Nat.reduceAdd, Nat.reduceMul, Nat.reduceSub, Nat.reduceLeDiff, Nat.reduceBEq, Nat.reduceBNe, reduceIte, reduceDIte, reduceCtorEq]; rfl) ?_ ?_ -- R2
  · try simp only [and_true, true_and]
    (repeat' (first | apply And.intro | intro _)) <;> (try simp only [decide_eq_true_eq, decide_eq_false_iff_not, Bool.not_eq_true', beq_iff_eq, Int.toNat_natCast] at *) <;> first | assumption | omega | trivial | (simp_all; done) | (simp_all; omega)
  refine k_seq ?_
  refine r_cond (by simp only [hT, tab34, mx0, mx1, mx2, mx3, mx4, mx5, effOp, endCall, callOp, appendOp, sliceLV, Ty.fieldTy, Ty.fieldOf, Nat.reduceLT, Nat.reduceEqDiff, Nat.reduceAdd, Nat.reduceMul, Nat.reduceSub, Nat.reduceLeDiff, Nat.reduceBEq, Nat.reduceBNe, reduceIte, reduceDIte, reduceCtorEq]; rfl) ?_ ?_
  · intro hb0
    try simp only [decide_eq_true_eq, decide_eq_false_iff_not, beq_iff_eq, bne_iff_ne, Bool.not_eq_true', Bool.and_eq_true] at hb0
    refine r_seq ?_
    refine r_region hG (by simp only [hT, tab34, cSign, cCmpi, cCompare, mx0, mx1, mx2, mx3, mx4, mx5, effOp, endCall, callOp, appendOp, sliceLV, Ty.fieldTy, Ty.fieldOf, Nat.reduceLT, Nat.reduceEqDiff, Nat.reduceAdd, Nat.reduceMul, Nat.reduceSub, Nat.reduceLeDiff, Nat.reduceBEq, Nat.reduceBNe, reduceIte, reduceDIte, reduceCtorEq]; rfl) ?_ ?_ -- R3
    · trivial
    refine k_seq ?_
    refine r_ret ?_
    refine k_seq_ret ?_
    refine ⟨[], ?_⟩
    simp only [hT, tab34, mr0, mr1, mr2, Nat.reduceLT, Nat.reduceEqDiff, Nat.reduceAdd, Nat.reduceMul, Nat.reduceSub, Nat.reduceLeDiff, Nat.reduceBEq, Nat.reduceBNe, reduceIte, reduceDIte, reduceCtorEq]
    exact cmp_first hC.1 hb0
  · intro hb0
    try simp only [decide_eq_true_eq, decide_eq_false_iff_not, beq_eq_false_iff_ne, bne_eq_false_iff_eq, Bool.not_eq_false', Bool.and_eq_false_imp] at hb0
    refine r_skip ?_
    refine k_seq ?_
    refine r_seq ?_
    refine r_seq ?_
    refine r_region hG (by simp only [hT, tab34, cSign, cCmpi, cCompare, mx0, mx1, mx2, mx3, mx4, mx5, effOp, endCall, callOp, appendOp, sliceLV, Ty.fieldTy, Ty.fieldOf, Nat.reduceLT, Nat.reduceEqDiff, Nat.reduceAdd, Nat.reduceMul, Nat.reduceSub, Nat.reduceLeDiff, Nat.reduceBEq, Nat.reduceBNe, reduceIte, reduceDIte, reduceCtorEq]; rfl) ?_ ?_ -- R4
    · trivial
    refine k_seq ?_
    refine r_cond (by simp only [hT, tab34, mx0, mx1, mx2, mx3, mx4, mx5, effOp, endCall, callOp, appendOp, sliceLV, Ty.fieldTy, Ty.fieldOf, Nat.reduceLT, Nat.reduceEqDiff, Nat.reduceAdd, Nat.reduceMul, Nat.reduceSub, Nat.reduceLeDiff, Nat.reduceBEq, Nat.reduceBNe, reduceIte, reduceDIte, reduceCtorEq]; rfl) ?_ ?_
    · intro hb1
      try simp only [decide_eq_true_eq, decide_eq_false_iff_not, beq_iff_eq, bne_iff_ne, Bool.not_eq_true', Bool.and_eq_true] at hb1
      refine r_seq ?_
      refine r_region hG (by simp only [hT, tab34, cSign, cCmpi, cCompare, mx0, mx1, mx2, mx3, mx4, mx5, effOp, endCall, callOp, appendOp, sliceLV, Ty.fieldTy, Ty.fieldOf, Nat.reduceLT, Nat.reduceEqDiff, Nat.reduceAdd, Nat.reduceMul, Nat.reduceSub, Nat.reduceLeDiff, Nat.reduceBEq, Nat.reduceBNe, reduceIte, reduceDIte, reduceCtorEq]; rfl) ?_ ?_ -- R5
      · try simp only [and_true, true_and]
        exact ⟨hC.2.1.1, hC.1.1, by omega⟩
      refine k_seq ?_
      refine r_ret ?_
      refine k_seq_ret ?_
      refine ⟨[], ?_⟩
      simp only [hT, tab34, mr0, mr1, mr2, Nat.reduceLT, Nat.reduceEqDiff, Nat.reduceAdd, Nat.reduceMul, Nat.reduceSub, Nat.reduceLeDiff, Nat.reduceBEq, Nat.reduceBNe, reduceIte, reduceDIte, reduceCtorEq]
      exact (cmp_second hC.1 hC.2.1 hb0).1 hb1
    · intro hb1
      try simp only [decide_eq_true_eq, decide_eq_false_iff_not, beq_eq_false_iff_ne, bne_eq_false_iff_eq, Bool.not_eq_false', Bool.and_eq_false_imp] at hb1
      refine r_skip ?_
      refine k_seq ?_
      refine r_seq ?_
      refine r_region hG (by simp only [hT, tab34, cSign, cCmpi, cCompare, mx0, mx1, mx2, mx3, mx4, mx5, effOp, endCall, callOp, appendOp, sliceLV, Ty.fieldTy, Ty.fieldOf, Nat.reduceLT, Nat.reduceEqDiff, Nat.reduceAdd, Nat.reduceMul, Nat.reduceSub, Nat.reduceLeDiff, Nat.reduceBEq, Nat.reduceBNe, reduceIte, reduceDIte, reduceCtorEq]; rfl) ?_ ?_ -- R6
      · try simp only [and_true, true_and]
        exact ⟨hC.1.1, hC.2.1.1, by omega⟩
      refine k_seq ?_
      refine r_ret ?_
      refine ⟨[], ?_⟩
      simp only [hT, tab34, mr0, mr1, mr2, Nat.reduceLT, Nat.reduceEqDiff, Nat.reduceAdd, Nat.reduceMul, Nat.reduceSub, Nat.reduceLeDiff, Nat.reduceBEq, Nat.reduceBNe, reduceIte, reduceDIte, reduceCtorEq]
      exact (cmp_second hC.1 hC.2.1 hb0).2 hb1

end Go.Proofs.YtkgbdpmhdplddaaDoor
end

section
/- The functions of the package exact, one after the other: each meets its contract. -/
set_option linter.unusedSimpArgs false
set_option linter.unusedVariables false
set_option maxRecDepth 100000
namespace Go.Proofs.YtkgbdpmhdplddaaDoor
open Go Go.Cm Go.Proofs

def tab47 (B : Base) : Tab := { types := [(3, (.int .i64)), (9, .str), (53, (.slice (.int .u32))), (55, (.st (.pair .bool (.slice (.int .u32))))), (82, (.int .u32))], elems := [], cons := [(57, cItoa)], hint := [], N := 22, base := B }
theorem good47 {B : Base} (hB : Tabs B) : MGood Tryd.prog (tab47 B) := ⟨⟨types_cons ty3 (types_cons ty9 (types_cons ty53 (types_cons ty55 (types_cons ty82 (types_nil))))), elems_nil, by simp only [tab47, ioB]; omega⟩, cons_ok (cals_cons (cal_ok Tryd.func57 (by kernel_rfl) rfl (valid57 hB)) (cals_nil)), by kernel_rfl⟩
def cDigits : Con := fun l os => match l, os with
  | [.z (.st (.pair .bool (.slice (.int .u32)))) x], [] => some (WOK x ∧ x.2.length < CAP, [.z (.int .i64) (ndig (dec x))], [])
  | _, _ => none

theorem valid47 {B : Base} (hB : Tabs B) : Valid B Tryd.prog 47 cDigits := by
  refine valid_of_J (T := tab47 B) (good47 hB).tab Tryd.func47 rfl rfl rfl ?_
  intro args os C rs os' hc hC
  unfold cDigits at hc
  split at hc
  case h_2 => cases hc
  rename_i x
  cases hc
  refine ⟨by simp only [List.length_cons, List.length_nil, tab47]; omega, rfl, ?_⟩
  intro X hP hT hr
  have hG : MGood X.P X.T := by rw [hP, hT]; exact good47 hB
  simp only [Tryd.f47, argEnv, ioList, ioB]
  refine r_seq ?_
  refine r_region hG (by simp only [hT, tab47, cItoa, mx0, mx1, mx2, mx3, mx4, mx5, effOp, endCall, callOp, appendOp, sliceLV, Ty.fieldTy, Ty.fieldOf, Nat.reduceLT, Nat.reduceEqDiff, Nat.reduceAdd, Nat.reduceMul, Nat.reduceSub, Nat.reduceLeDiff, Nat.reduceBEq, Nat.reduceBNe, reduceIte, reduceDIte, reduceCtorEq]; rfl) ?_ ?_ -- R0
  · trivial
  refine k_seq ?_
  refine r_seq ?_
  refine r_region hG (by simp only [hT, tab47, cItoa, mx0, mx1, mx2, mx3, mx4, mx5, effOp, endCall, callOp, appendOp, sliceLV, Ty.fieldTy, Ty.fieldOf, Nat.reduceLT, Nat.reduceEqDiff, Nat.reduceAdd, Nat.reduceMul, Nat.reduceSub, Nat.reduceLeDiff, Nat.reduceBEq, Nat.reduceBNe, reduceIte, reduceDIte, reduceCtorEq]; rfl) ?_ ?_ -- R1
  · trivial
  refine k_seq ?_
  refine r_seq ?_
  refine r_seq ?_
  refine r_region hG (by simp only [hT, tab47, cItoa, mx0, mx1, mx2, mx3, mx4, mx5, effOp, endCall, callOp, appendOp, sliceLV, Ty.fieldTy, Ty.fieldOf, Nat.reduceLT, Nat.reduceEqDiff, Nat.reduceAdd, Nat.reduceMul, Nat.reduceSub, Nat.reduceLeDiff, Nat.reduceBEq, Nat.reduceBNe, reduceIte, reduceDIte, reduceCtorEq]; rfl) ?_ ?_ -- R2
  · trivial
  refine k_seq ?_
  refine r_cond (by simp only [hT, tab47, mx0, mx1, mx2, mx3, mx4, mx5, effOp, endCall, callOp, appendOp, sliceLV, Ty.fieldTy, Ty.fieldOf, Nat.reduceLT, Nat.reduceEqDiff, Nat.reduceAdd, Nat.reduceMul, Nat.reduceSub, Nat.reduceLeDiff, Nat.reduceBEq, Nat.reduceBNe, reduceIte, reduceDIte, reduceCtorEq]; rfl) ?_ ?_
  · intro hb0
    try simp only [decide_eq_true_eq, decide_eq_false_iff_not, beq_iff_eq, bne_iff_ne, Bool.not_eq_true', Bool.and_eq_true] at hb0
    refine r_seq ?_
    refine r_region hG (by simp only [hT, tab47, cItoa, mx0, mx1, mx2, mx3, mx4, mx5, effOp, endCall, callOp, appendOp, sliceLV, Ty.fieldTy, Ty.fieldOf, Nat.reduceLT, Nat.reduceEqDiff, Nat.reduceAdd, Nat.reduceMul, Nat.reduceSub, Nat.reduceLeDiff, Nat.reduceBEq, Nat.reduceBNe, reduceIte, reduceDIte, reduceCtorEq]; rfl) ?_ ?_ -- R3
    · trivial
    refine k_seq ?_
    refine r_ret ?_
    refine k_seq_ret ?_
    refine ⟨[], ?_⟩
    simp only [hT, tab47, mr0, mr1, mr2, Nat.reduceLT, Nat.reduceEqDiff, Nat.reduceAdd, Nat.reduceMul, Nat.reduceSub, Nat.reduceLeDiff, Nat.reduceBEq, Nat.reduceBNe, reduceIte, reduceDIte, reduceCtorEq]
    rw [(dec_sign hC.1).1.1 hb0, ndig_zero]
  · intro hb0
    try simp only [decide_eq_true_eq, decide_eq_false_iff_not, beq_eq_false_iff_ne, bne_eq_false_iff_eq, Bool.not_eq_false', Bool.and_eq_false_imp] at hb0
    refine r_skip ?_
    refine k_seq ?_
    refine r_seq ?_
    refine r_region hG (by simp only [hT, tab47, cItoa, mx0, mx1, mx2, mx3, mx4, mx5, effOp, endCall, callOp, appendOp, sliceLV, Ty.fieldTy, Ty.fieldOf, Nat.reduceLT, Nat.reduceEqDiff, Nat.reduceAdd, Nat.reduceMul, Nat.reduceSub, Nat.reduceLeDiff, Nat.reduceBEq, Nat.reduceBNe, reduceIte, reduceDIte, reduceCtorEq]; rfl) ?_ ?_ -- R4
    · try simp only [and_true, true_and]
      obtain ⟨d1, d2, d3, d4⟩ := dig_goal hC.1 hC.2 hb0
      have d5 := last_lim hC.1.1.1 (by omega)
      have hB : LB = 1000000000 := rfl
      rw [d2, d3]
      exact ⟨d1, by unfold I64; omega⟩
    refine k_seq ?_
    refine r_ret ?_
    refine ⟨[], ?_⟩
    simp only [hT, tab47, mr0, mr1, mr2, Nat.reduceLT, Nat.reduceEqDiff, Nat.reduceAdd, Nat.reduceMul, Nat.reduceSub, Nat.reduceLeDiff, Nat.reduceBEq, Nat.reduceBNe, reduceIte, reduceDIte, reduceCtorEq]
    obtain ⟨d1, d2, d3, d4⟩ := dig_goal hC.1 hC.2 hb0
    rw [d2, d3]
    exact d4

def tab48 (B : Base) : Tab := { types := [(3, (.int .i64)), (55, (.st (.pair .bool (.slice (.int .u32)))))], elems := [], cons := [(33, cText), (47, cDigits)], hint := [], N := 9, base := B }
theorem good48 {B : Base} (hB : Tabs B) : MGood Tryd.prog (tab48 B) := ⟨⟨types_cons ty3 (types_cons ty55 (types_nil)), elems_nil, by simp only [tab48, ioB]; omega⟩, cons_ok (cals_cons (cal_ok Tryd.func33 (by kernel_rfl) rfl (valid33 hB)) (cals_cons (cal_ok Tryd.func47 (by kernel_rfl) rfl (valid47 hB)) (cals_nil))), by kernel_rfl⟩
def cTold : Con := fun l os => match l, os with
  | [.z (.st (.pair .bool (.slice (.int .u32)))) x], [] => some (WOK x ∧ x.2.length < CAP, [.z .str (if 2000 < ndig (dec x) then [] else Lib.itoa (dec x)), .z (.int .i64) (if 2000 < ndig (dec x) then 6 else 0)], [])
  | _, _ => none

theorem valid48 {B : Base} (hB : Tabs B) : Valid B Tryd.prog 48 cTold := by
  refine valid_of_J (T := tab48 B) (good48 hB).tab Tryd.func48 rfl rfl rfl ?_
  intro args os C rs os' hc hC
  unfold cTold at hc
  split at hc
  case h_2 => cases hc
  rename_i x
  cases hc
  refine ⟨by simp only [List.length_cons, List.length_nil, tab48]; omega, rfl, ?_⟩
  intro X hP hT hr
  have hG : MGood X.P X.T := by rw [hP, hT]; exact good48 hB
  simp only [Tryd.f48, argEnv, ioList, ioB]
  refine r_seq ?_
  refine r_region hG (by simp only [hT, tab48, cDigits, cText, mx0, mx1, mx2, mx3, mx4, mx5, effOp, endCall, callOp, appendOp, sliceLV, Ty.fieldTy, Ty.fieldOf, Nat.reduceLT, Nat.reduceEqDiff, Nat.reduceAdd, Nat.reduceMul, Nat.reduceSub, Nat.reduceLeDiff, Nat.reduceBEq, Nat.reduceBNe, reduceIte, reduceDIte, reduceCtorEq]; rfl) ?_ ?_ -- R0
  · trivial
  refine k_seq ?_
  refine r_seq ?_
  refine r_seq ?_
  refine r_region hG (by simp only [hT, tab48, cDigits, cText, mx0, mx1, mx2, mx3, mx4, mx5, effOp, endCall, callOp, appendOp, sliceLV, Ty.fieldTy, Ty.fieldOf, Nat.reduceLT, Nat.reduceEqDiff, Nat.reduceAdd, Nat.reduceMul, Nat.reduceSub, Nat.reduceLeDiff, Nat.reduceBEq, Nat.reduceBNe, reduceIte, reduceDIte, reduceCtorEq]; rfl) ?_ ?_ -- R1
  · try simp only [and_true, true_and]
    exact hC
  refine k_seq ?_
  refine r_cond (by simp only [hT, tab48, mx0, mx1, mx2, mx3, mx4, mx5, effOp, endCall, callOp, appendOp, sliceLV, Ty.fieldTy, Ty.fieldOf, Nat.reduceLT, Nat.reduceEqDiff, Nat.reduceAdd, Nat.reduceMul, Nat.reduceSub, Nat.reduceLeDiff, Nat.reduceBEq, Nat.reduceBNe, reduceIte, reduceDIte, reduceCtorEq]; rfl) ?_ ?_
  · intro hb0
    try simp only [decide_eq_true_eq, decide_eq_false_iff_not, beq_iff_eq, bne_iff_ne, Bool.not_eq_true', Bool.and_eq_true] at hb0
    refine r_seq ?_
    refine r_region hG (by simp only [hT, tab48, cDigits, cText, mx0, mx1, mx2, mx3, mx4, mx5, effOp, endCall, callOp, appendOp, sliceLV, Ty.fieldTy, Ty.fieldOf, Nat.reduceLT, Nat.reduceEqDiff, Nat.reduceAdd, Nat.reduceMul, Nat.reduceSub, Nat.reduceLeDiff, Nat.reduceBEq, Nat.reduceBNe, reduceIte, reduceDIte, reduceCtorEq]; rfl) ?_ ?_ -- R2
    · trivial
    refine k_seq ?_
    refine r_ret ?_
    refine k_seq_ret ?_
    refine ⟨[], ?_⟩
    simp only [hT, tab48, mr0, mr1, mr2, Nat.reduceLT, Nat.reduceEqDiff, Nat.reduceAdd, Nat.reduceMul, Nat.reduceSub, Nat.reduceLeDiff, Nat.reduceBEq, Nat.reduceBNe, reduceIte, reduceDIte, reduceCtorEq]
    rw [if_pos hb0, if_pos hb0]; exact ⟨rfl, rfl⟩
  · intro hb0
    try simp only [decide_eq_true_eq, decide_eq_false_iff_not, beq_eq_false_iff_ne, bne_eq_false_iff_eq, Bool.not_eq_false', Bool.and_eq_false_imp] at hb0
    refine r_skip ?_
    refine k_seq ?_
    refine r_seq ?_
    refine r_region hG (by simp only [hT, tab48, cDigits, cText, mx0, mx1, mx2, mx3, mx4, mx5, effOp, endCall, callOp, appendOp, sliceLV, Ty.fieldTy, Ty.fieldOf, Nat.reduceLT, Nat.reduceEqDiff, Nat.reduceAdd, Nat.reduceMul, Nat.reduceSub, Nat.reduceLeDiff, Nat.reduceBEq, Nat.reduceBNe, reduceIte, reduceDIte, reduceCtorEq]; rfl) ?_ ?_ -- R3
    · try simp only [and_true, true_and]
      exact hC
    refine k_seq ?_
    refine r_ret ?_
    refine ⟨[], ?_⟩
    simp only [hT, tab48, mr0, mr1, mr2, Nat.reduceLT, Nat.reduceEqDiff, Nat.reduceAdd, Nat.reduceMul, Nat.reduceSub, Nat.reduceLeDiff, Nat.reduceBEq, Nat.reduceBNe, reduceIte, reduceDIte, reduceCtorEq]
    rw [if_neg hb0, if_neg hb0]; exact ⟨rfl, rfl⟩

def tab37 (B : Base) : Tab := { types := [(3, (.int .i64)), (53, (.slice (.int .u32))), (55, (.st (.pair .bool (.slice (.int .u32))))), (82, (.int .u32)), (83, (.int .u64))], elems := [(53, 82)], cons := [], hint := [], N := 27, base := B }
theorem good37 {B : Base} (hB : Tabs B) : MGood Tryd.prog (tab37 B) := ⟨⟨types_cons ty3 (types_cons ty53 (types_cons ty55 (types_cons ty82 (types_cons ty83 (types_nil))))), elems_cons (by kernel_rfl) (elems_nil), by simp only [tab37, ioB]; omega⟩, cons_nil rfl, by kernel_rfl⟩
def cSmall : Con := fun l os => match l, os with
  | [.z (.int .i64) n], [] => some (I64 n, [.z (.st (.pair .bool (.slice (.int .u32)))) (enc n)], [])
  | _, _ => none

theorem valid37 {B : Base} (hB : Tabs B) : Valid B Tryd.prog 37 cSmall := by
  refine valid_of_J (T := tab37 B) (good37 hB).tab Tryd.func37 rfl rfl rfl ?_
  intro args os C rs os' hc hC
  unfold cSmall at hc
  split at hc
  case h_2 => cases hc
  rename_i n
  cases hc
  refine ⟨by simp only [List.length_cons, List.length_nil, tab37]; omega, rfl, ?_⟩
  intro X hP hT hr
  have hG : MGood X.P X.T := by rw [hP, hT]; exact good37 hB
  simp only [Tryd.f37, argEnv, ioList, ioB]
  refine r_seq ?_
  refine r_region hG (by simp only [hT, tab37, mx0, mx1, mx2, mx3, mx4, mx5, effOp, endCall, callOp, appendOp, sliceLV, Ty.fieldTy, Ty.fieldOf, Nat.reduceLT, Nat.reduceEqDiff, Nat.reduceAdd, Nat.reduceMul, Nat.reduceSub, Nat.reduceLeDiff, Nat.reduceBEq, Nat.reduceBNe, reduceIte, reduceDIte, reduceCtorEq]; rfl) ?_ ?_ -- R0
  · trivial
  refine k_seq ?_
  refine r_seq ?_
  refine r_region hG (by simp only [hT, tab37, mx0, mx1, mx2, mx3, mx4, mx5, effOp, endCall, callOp, appendOp, sliceLV, Ty.fieldTy, Ty.fieldOf, Nat.reduceLT, Nat.reduceEqDiff, Nat.reduceAdd, Nat.reduceMul, Nat.reduceSub, Nat.reduceLeDiff, Nat.reduceBEq, Nat.reduceBNe, reduceIte, reduceDIte, reduceCtorEq]; rfl) ?_ ?_ -- R1
  · trivial
  refine k_seq ?_
  refine r_seq ?_
  refine r_region hG (by simp only [hT, tab37, mx0, mx1, mx2, mx3, mx4, mx5, effOp, endCall, callOp, appendOp, sliceLV, Ty.fieldTy, Ty.fieldOf, Nat.reduceLT, Nat.reduceEqDiff, Nat.reduceAdd, Nat.reduceMul, Nat.reduceSub, Nat.reduceLeDiff, Nat.reduceBEq, Nat.reduceBNe, reduceIte, reduceDIte, reduceCtorEq]; rfl) ?_ ?_ -- R2
  · trivial
  refine k_seq ?_
  refine r_cut (fun (z : Int) => (⟨[(4, .l (.z (.int .u64) z)), (3, .l (.ownP 3 0)), (2, .l (.ownP 2 0))], [(3, .box 55 [.z .bool (decide (n < 0)), .val (.slice none 0 0)]), (2, .box 55 [.z .bool false, .val (.slice none 0 0)])]⟩ : AState)) (fun z => z = n.natAbs) ?_ ?_
  · refine r_seq ?_
    refine r_region hG (by simp only [hT, tab37, mx0, mx1, mx2, mx3, mx4, mx5, effOp, endCall, callOp, appendOp, sliceLV, Ty.fieldTy, Ty.fieldOf, Nat.reduceLT, Nat.reduceEqDiff, Nat.reduceAdd, Nat.reduceMul, Nat.reduceSub, Nat.reduceLeDiff, Nat.reduceBEq, Nat.reduceBNe, reduceIte, reduceDIte, reduceCtorEq]; rfl) ?_ ?_ -- R3
    · trivial
    refine k_seq ?_
    refine r_cond (by simp only [hT, tab37, mx0, mx1, mx2, mx3, mx4, mx5, effOp, endCall, callOp, appendOp, sliceLV, Ty.fieldTy, Ty.fieldOf, Nat.reduceLT, Nat.reduceEqDiff, Nat.reduceAdd, Nat.reduceMul, Nat.reduceSub, Nat.reduceLeDiff, Nat.reduceBEq, Nat.reduceBNe, reduceIte, reduceDIte, reduceCtorEq]; rfl) ?_ ?_
    · intro hb0
      try simp only [decide_eq_true_eq, decide_eq_false_iff_not, beq_iff_eq, bne_iff_ne, Bool.not_eq_true', Bool.and_eq_true] at hb0
      refine r_region hG (by simp only [hT, tab37, mx0, mx1, mx2, mx3, mx4, mx5, effOp, endCall, callOp, appendOp, sliceLV, Ty.fieldTy, Ty.fieldOf, Nat.reduceLT, Nat.reduceEqDiff, Nat.reduceAdd, Nat.reduceMul, Nat.reduceSub, Nat.reduceLeDiff, Nat.reduceBEq, Nat.reduceBNe, reduceIte, reduceDIte, reduceCtorEq]; rfl) ?_ ?_ -- R4
      · trivial
      show ∃ z, _
      simp only [ml0, ml1, Nat.reduceLT, Nat.reduceEqDiff, Nat.reduceAdd, Nat.reduceMul, Nat.reduceSub, Nat.reduceLeDiff, Nat.reduceBEq, Nat.reduceBNe, reduceIte, reduceDIte, reduceCtorEq]
      first | exact (small_abs hC).1 hb0 | exact (small_abs hC).2 hb0
    · intro hb0
      try simp only [decide_eq_true_eq, decide_eq_false_iff_not, beq_eq_false_iff_ne, bne_eq_false_iff_eq, Bool.not_eq_false', Bool.and_eq_false_imp] at hb0
      refine r_skip ?_
      show ∃ z, _
      simp only [ml0, ml1, Nat.reduceLT, Nat.reduceEqDiff, Nat.reduceAdd, Nat.reduceMul, Nat.reduceSub, Nat.reduceLeDiff, Nat.reduceBEq, Nat.reduceBNe, reduceIte, reduceDIte, reduceCtorEq]
      first | exact (small_abs hC).1 hb0 | exact (small_abs hC).2 hb0
  rintro z hz
  try dsimp only at hz
  refine r_seq ?_
  refine j_block ?_
  refine j_loop (fun (z : Nat × List Int) => (⟨[(4, .l (.z (.int .u64) (z.1 : Int))), (3, .l (.ownP 3 0)), (2, .l (.ownP 2 0))], [(3, .box 55 [.z .bool (decide (n < 0)), .ownS 24]), (24, .arr (.int .u32) 82 z.2), (2, .box 55 [.z .bool false, .val (.slice none 0 0)])]⟩ : AState)) (fun z => z.2 ++ limbs z.1 = limbs n.natAbs ∧ z.1 < 18446744073709551616) (fun z => z.1) (n.natAbs, []) ?_ ?_ ?_
  · simp only [ml0, ml1, Nat.reduceLT, Nat.reduceEqDiff, Nat.reduceAdd, Nat.reduceMul, Nat.reduceSub, Nat.reduceLeDiff, Nat.reduceBEq, Nat.reduceBNe, reduceIte, reduceDIte, reduceCtorEq]
    exact ⟨hz, by unfold ioB; omega⟩
  · exact ⟨by simp, by have hC : I64 n := hC; unfold I64 at hC; omega⟩
  · rintro ⟨u, m⟩ ⟨g1, g2⟩
    try dsimp only at g1 g2
    refine r_seq ?_
    refine r_seq ?_
    refine r_region hG (by simp only [hT, tab37, mx0, mx1, mx2, mx3, mx4, mx5, effOp, endCall, callOp, appendOp, sliceLV, Ty.fieldTy, Ty.fieldOf, Nat.reduceLT, Nat.reduceEqDiff, Nat.reduceAdd, Nat.reduceMul, Nat.reduceSub, Nat.reduceLeDiff, Nat.reduceBEq, Nat.reduceBNe, reduceIte, reduceDIte, reduceCtorEq]; rfl) ?_ ?_ -- R5
    · trivial
    refine k_seq ?_
    refine r_cond (by simp only [hT, tab37, mx0, mx1, mx2, mx3, mx4, mx5, effOp, endCall, callOp, appendOp, sliceLV, Ty.fieldTy, Ty.fieldOf, Nat.reduceLT, Nat.reduceEqDiff, Nat.reduceAdd, Nat.reduceMul, Nat.reduceSub, Nat.reduceLeDiff, Nat.reduceBEq, Nat.reduceBNe, reduceIte, reduceDIte, reduceCtorEq]; rfl) ?_ ?_
    · intro hb1
      try simp only [decide_eq_true_eq, decide_eq_false_iff_not, beq_iff_eq, bne_iff_ne, Bool.not_eq_true', Bool.and_eq_true] at hb1
      refine r_skip ?_
      refine k_seq ?_
      refine r_seq ?_
      refine j_block ?_
      refine r_region hG (by simp only [hT, tab37, mx0, mx1, mx2, mx3, mx4, mx5, effOp, endCall, callOp, appendOp, sliceLV, Ty.fieldTy, Ty.fieldOf, Nat.reduceLT, Nat.reduceEqDiff, Nat.reduceAdd, Nat.reduceMul, Nat.reduceSub, Nat.reduceLeDiff, Nat.reduceBEq, Nat.reduceBNe, reduceIte, reduceDIte, reduceCtorEq]; rfl) ?_ ?_ -- R7
      · try simp only [and_true, true_and]
        have h3 := limbs_len3 (n := n.natAbs) (by have hC : I64 n := hC; unfold I64 at hC; omega)
        have h4 := congrArg List.length g1
        simp only [List.length_append] at h4
        exact ⟨by omega, by unfold Cm.Roomy; omega⟩
      refine k_block ?_
      refine k_seq ?_
      refine r_region hG (by simp only [hT, tab37, mx0, mx1, mx2, mx3, mx4, mx5, effOp, endCall, callOp, appendOp, sliceLV, Ty.fieldTy, Ty.fieldOf, Nat.reduceLT, Nat.reduceEqDiff, Nat.reduceAdd, Nat.reduceMul, Nat.reduceSub, Nat.reduceLeDiff, Nat.reduceBEq, Nat.reduceBNe, reduceIte, reduceDIte, reduceCtorEq]; rfl) ?_ ?_ -- R6
      · trivial
      show ∃ z, _
      simp only [ml0, ml1, Nat.reduceLT, Nat.reduceEqDiff, Nat.reduceAdd, Nat.reduceMul, Nat.reduceSub, Nat.reduceLeDiff, Nat.reduceBEq, Nat.reduceBNe, reduceIte, reduceDIte, reduceCtorEq]
      exact small_round g1 g2 hb1
    · intro hb1
      try simp only [decide_eq_true_eq, decide_eq_false_iff_not, beq_eq_false_iff_ne, bne_eq_false_iff_eq, Bool.not_eq_false', Bool.and_eq_false_imp] at hb1
      refine r_exit ?_
      refine k_seq_exit ?_
      refine k_round_exit ?_
      refine k_block_exit ?_
      refine k_seq ?_
      refine r_seq ?_
      refine r_region hG (by simp only [hT, tab37, mx0, mx1, mx2, mx3, mx4, mx5, effOp, endCall, callOp, appendOp, sliceLV, Ty.fieldTy, Ty.fieldOf, Nat.reduceLT, Nat.reduceEqDiff, Nat.reduceAdd, Nat.reduceMul, Nat.reduceSub, Nat.reduceLeDiff, Nat.reduceBEq, Nat.reduceBNe, reduceIte, reduceDIte, reduceCtorEq]; rfl) ?_ ?_ -- R8
      · trivial
      refine k_seq ?_
      refine r_ret ?_
      refine ⟨[24], ?_⟩
      simp only [hT, tab37, mr0, mr1, mr2, Nat.reduceLT, Nat.reduceEqDiff, Nat.reduceAdd, Nat.reduceMul, Nat.reduceSub, Nat.reduceLeDiff, Nat.reduceBEq, Nat.reduceBNe, reduceIte, reduceDIte, reduceCtorEq]
      have h0 : u = 0 := by omega
      subst h0
      rw [show limbs 0 = [] by simp [limbs], List.append_nil] at g1
      rw [g1]; rfl

def tab18 (B : Base) : Tab := { types := [(3, (.int .i64)), (55, (.st (.pair .bool (.slice (.int .u32)))))], elems := [], cons := [(33, cText), (37, cSmall)], hint := [], N := 6, base := B }
theorem good18 {B : Base} (hB : Tabs B) : MGood Tryd.prog (tab18 B) := ⟨⟨types_cons ty3 (types_cons ty55 (types_nil)), elems_nil, by simp only [tab18, ioB]; omega⟩, cons_ok (cals_cons (cal_ok Tryd.func33 (by kernel_rfl) rfl (valid33 hB)) (cals_cons (cal_ok Tryd.func37 (by kernel_rfl) rfl (valid37 hB)) (cals_nil))), by kernel_rfl⟩
def cOf : Con := fun l os => match l, os with
  | [.z (.int .i64) n], [] => some (I64 n, [.z .str (Lib.itoa n)], [])
  | _, _ => none

theorem valid18 {B : Base} (hB : Tabs B) : Valid B Tryd.prog 18 cOf := by
  refine valid_of_J (T := tab18 B) (good18 hB).tab Tryd.func18 rfl rfl rfl ?_
  intro args os C rs os' hc hC
  unfold cOf at hc
  split at hc
  case h_2 => cases hc
  rename_i n
  cases hc
  refine ⟨by simp only [List.length_cons, List.length_nil, tab18]; omega, rfl, ?_⟩
  intro X hP hT hr
  have hG : MGood X.P X.T := by rw [hP, hT]; exact good18 hB
  simp only [Tryd.f18, argEnv, ioList, ioB]
  refine r_seq ?_
  refine r_region hG (by simp only [hT, tab18, cSmall, cText, mx0, mx1, mx2, mx3, mx4, mx5, effOp, endCall, callOp, appendOp, sliceLV, Ty.fieldTy, Ty.fieldOf, Nat.reduceLT, Nat.reduceEqDiff, Nat.reduceAdd, Nat.reduceMul, Nat.reduceSub, Nat.reduceLeDiff, Nat.reduceBEq, Nat.reduceBNe, reduceIte, reduceDIte, reduceCtorEq]; rfl) ?_ ?_ -- R0
  · trivial
  refine k_seq ?_
  refine r_seq ?_
  refine r_region hG (by simp only [hT, tab18, cSmall, cText, mx0, mx1, mx2, mx3, mx4, mx5, effOp, endCall, callOp, appendOp, sliceLV, Ty.fieldTy, Ty.fieldOf, Nat.reduceLT, Nat.reduceEqDiff, Nat.reduceAdd, Nat.reduceMul, Nat.reduceSub, Nat.reduceLeDiff, Nat.reduceBEq, Nat.reduceBNe, reduceIte, reduceDIte, reduceCtorEq]; rfl) ?_ ?_ -- R1
  · try simp only [and_true, true_and]
    exact ⟨hC, (enc_small hC).1, (enc_small hC).2.1⟩
  refine k_seq ?_
  refine r_ret ?_
  refine ⟨[], ?_⟩
  simp only [hT, tab18, mr0, mr1, mr2, Nat.reduceLT, Nat.reduceEqDiff, Nat.reduceAdd, Nat.reduceMul, Nat.reduceSub, Nat.reduceLeDiff, Nat.reduceBEq, Nat.reduceBNe, reduceIte, reduceDIte, reduceCtorEq]
  rw [dec_enc]

end Go.Proofs.YtkgbdpmhdplddaaDoor
end

section
/- The functions of the package exact, one after the other: each meets its contract. -/
set_option linter.unusedSimpArgs false
set_option linter.unusedVariables false
set_option maxRecDepth 100000
namespace Go.Proofs.YtkgbdpmhdplddaaDoor
open Go Go.Cm Go.Proofs

def tab12 (B : Base) : Tab := { types := [(9, .str)], elems := [], cons := [], hint := [], N := 4, base := B }
theorem good12 {B : Base} (hB : Tabs B) : MGood Tryd.prog (tab12 B) := ⟨⟨types_cons ty9 (types_nil), elems_nil, by simp only [tab12, ioB]; omega⟩, cons_nil rfl, by kernel_rfl⟩
def cIs : Con := fun l os => match l, os with
  | [.z .str s], [] => some (True, [.fn 28 [.z (.ptr .str) s]], [])
  | _, _ => none

theorem valid12 {B : Base} (hB : Tabs B) : Valid B Tryd.prog 12 cIs := by
  refine valid_of_J (T := tab12 B) (good12 hB).tab Tryd.func12 rfl rfl rfl ?_
  intro args os C rs os' hc hC
  unfold cIs at hc
  split at hc
  case h_2 => cases hc
  rename_i s
  cases hc
  refine ⟨by simp only [List.length_cons, List.length_nil, tab12]; omega, rfl, ?_⟩
  intro X hP hT hr
  have hG : MGood X.P X.T := by rw [hP, hT]; exact good12 hB
  simp only [Tryd.f12, argEnv, ioList, ioB]
  refine r_seq ?_
  refine r_region hG (by simp only [hT, tab12, mx0, mx1, mx2, mx3, mx4, mx5, effOp, endCall, callOp, appendOp, sliceLV, Ty.fieldTy, Ty.fieldOf, Nat.reduceLT, Nat.reduceEqDiff, Nat.reduceAdd, Nat.reduceMul, Nat.reduceSub, Nat.reduceLeDiff, Nat.reduceBEq, Nat.reduceBNe, reduceIte, reduceDIte, reduceCtorEq]; rfl) ?_ ?_ -- R0
  · trivial
  refine k_seq ?_
  refine r_seq ?_
  refine r_region hG (by simp only [hT, tab12, mx0, mx1, mx2, mx3, mx4, mx5, effOp, endCall, callOp, appendOp, sliceLV, Ty.fieldTy, Ty.fieldOf, Nat.reduceLT, Nat.reduceEqDiff, Nat.reduceAdd, Nat.reduceMul, Nat.reduceSub, Nat.reduceLeDiff, Nat.reduceBEq, Nat.reduceBNe, reduceIte, reduceDIte, reduceCtorEq]; rfl) ?_ ?_ -- R1
  · trivial
  refine k_seq ?_
  refine r_ret ?_
  refine ⟨[], ?_⟩
  simp only [hT, tab12, mr0, mr1, mr2, Nat.reduceLT, Nat.reduceEqDiff, Nat.reduceAdd, Nat.reduceMul, Nat.reduceSub, Nat.reduceLeDiff, Nat.reduceBEq, Nat.reduceBNe, reduceIte, reduceDIte, reduceCtorEq]
  rfl

def tab22 (B : Base) : Tab := { types := [(27, (.int .i64))], elems := [], cons := [], hint := [], N := 4, base := B }
theorem good22 {B : Base} (hB : Tabs B) : MGood Tryd.prog (tab22 B) := ⟨⟨types_cons ty27 (types_nil), elems_nil, by simp only [tab22, ioB]; omega⟩, cons_nil rfl, by kernel_rfl⟩
def cFails : Con := fun l os => match l, os with
  | [.z (.int .i64) n], [] => some (True, [.fn 45 [.z (.ptr (.int .i64)) n]], [])
  | _, _ => none

theorem valid22 {B : Base} (hB : Tabs B) : Valid B Tryd.prog 22 cFails := by
  refine valid_of_J (T := tab22 B) (good22 hB).tab Tryd.func22 rfl rfl rfl ?_
  intro args os C rs os' hc hC
  unfold cFails at hc
  split at hc
  case h_2 => cases hc
  rename_i n
  cases hc
  refine ⟨by simp only [List.length_cons, List.length_nil, tab22]; omega, rfl, ?_⟩
  intro X hP hT hr
  have hG : MGood X.P X.T := by rw [hP, hT]; exact good22 hB
  simp only [Tryd.f22, argEnv, ioList, ioB]
  refine r_seq ?_
  refine r_region hG (by simp only [hT, tab22, mx0, mx1, mx2, mx3, mx4, mx5, effOp, endCall, callOp, appendOp, sliceLV, Ty.fieldTy, Ty.fieldOf, Nat.reduceLT, Nat.reduceEqDiff, Nat.reduceAdd, Nat.reduceMul, Nat.reduceSub, Nat.reduceLeDiff, Nat.reduceBEq, Nat.reduceBNe, reduceIte, reduceDIte, reduceCtorEq]; rfl) ?_ ?_ -- R0
  · trivial
  refine k_seq ?_
  refine r_seq ?_
  refine r_region hG (by simp only [hT, tab22, mx0, mx1, mx2, mx3, mx4, mx5, effOp, endCall, callOp, appendOp, sliceLV, Ty.fieldTy, Ty.fieldOf, Nat.reduceLT, Nat.reduceEqDiff, Nat.reduceAdd, Nat.reduceMul, Nat.reduceSub, Nat.reduceLeDiff, Nat.reduceBEq, Nat.reduceBNe, reduceIte, reduceDIte, reduceCtorEq]; rfl) ?_ ?_ -- R1
  · trivial
  refine k_seq ?_
  refine r_ret ?_
  refine ⟨[], ?_⟩
  simp only [hT, tab22, mr0, mr1, mr2, Nat.reduceLT, Nat.reduceEqDiff, Nat.reduceAdd, Nat.reduceMul, Nat.reduceSub, Nat.reduceLeDiff, Nat.reduceBEq, Nat.reduceBNe, reduceIte, reduceDIte, reduceCtorEq]
  rfl

def tab28 (B : Base) : Tab := { types := [(9, .str), (27, (.int .i64))], elems := [], cons := [], hint := [], N := 13, base := B }
theorem good28 {B : Base} (hB : Tabs B) : MGood Tryd.prog (tab28 B) := ⟨⟨types_cons ty9 (types_cons ty27 (types_nil)), elems_nil, by simp only [tab28, ioB]; omega⟩, cons_nil rfl, by kernel_rfl⟩
def cIsF : Con := fun l os => match l, os with
  | [.z .str a, .z (.int .i64) e, .z (.ptr .str) s], [] => some (True, [.z .bool ((a == s) && (e == 0))], [])
  | _, _ => none

theorem valid28 {B : Base} (hB : Tabs B) : Valid B Tryd.prog 28 cIsF := by
  refine valid_of_J (T := tab28 B) (good28 hB).tab Tryd.func28 rfl rfl rfl ?_
  intro args os C rs os' hc hC
  unfold cIsF at hc
  split at hc
  case h_2 => cases hc
  rename_i a e s
  cases hc
  refine ⟨by simp only [List.length_cons, List.length_nil, tab28]; omega, rfl, ?_⟩
  intro X hP hT hr
  have hG : MGood X.P X.T := by rw [hP, hT]; exact good28 hB
  simp only [Tryd.f28, argEnv, ioList, ioB]
  refine r_seq ?_
  refine r_region hG (by simp only [hT, tab28, mx0, mx1, mx2, mx3, mx4, mx5, effOp, endCall, callOp, appendOp, sliceLV, Ty.fieldTy, Ty.fieldOf, Nat.reduceLT, Nat.reduceEqDiff, Nat.reduceAdd, Nat.reduceMul, Nat.reduceSub, Nat.reduceLeDiff, Nat.reduceBEq, Nat.reduceBNe, reduceIte, reduceDIte, reduceCtorEq]; rfl) ?_ ?_ -- R0
  · trivial
  refine k_seq ?_
  refine r_seq ?_
  refine r_region hG (by simp only [hT, tab28, mx0, mx1, mx2, mx3, mx4, mx5, effOp, endCall, callOp, appendOp, sliceLV, Ty.fieldTy, Ty.fieldOf, Nat.reduceLT, Nat.reduceEqDiff, Nat.reduceAdd, Nat.reduceMul, Nat.reduceSub, Nat.reduceLeDiff, Nat.reduceBEq, Nat.reduceBNe, reduceIte, reduceDIte, reduceCtorEq]; rfl) ?_ ?_ -- R1
  · try simp only [and_true, true_and]
    (repeat' (first | apply And.intro | intro _)) <;> (try simp only [decide_eq_true_eq, decide_eq_false_iff_not, Bool.not_eq_true', beq_iff_eq, Int.toNat_natCast] at *) <;> first | assumption | omega | trivial | (simp_all; done) | (simp_all; omega)
  refine k_seq ?_
  refine r_ret ?_
  refine ⟨[], ?_⟩
  simp only [hT, tab28, mr0, mr1, mr2, Nat.reduceLT, Nat.reduceEqDiff, Nat.reduceAdd, Nat.reduceMul, Nat.reduceSub, Nat.reduceLeDiff, Nat.reduceBEq, Nat.reduceBNe, reduceIte, reduceDIte, reduceCtorEq]
  skip

def tab45 (B : Base) : Tab := { types := [(9, .str), (27, (.int .i64))], elems := [], cons := [], hint := [], N := 13, base := B }
theorem good45 {B : Base} (hB : Tabs B) : MGood Tryd.prog (tab45 B) := ⟨⟨types_cons ty9 (types_cons ty27 (types_nil)), elems_nil, by simp only [tab45, ioB]; omega⟩, cons_nil rfl, by kernel_rfl⟩
def cFailsF : Con := fun l os => match l, os with
  | [.z .str a, .z (.int .i64) e, .z (.ptr (.int .i64)) n], [] => some (True, [.z .bool ((a == []) && (e == n))], [])
  | _, _ => none

theorem valid45 {B : Base} (hB : Tabs B) : Valid B Tryd.prog 45 cFailsF := by
  refine valid_of_J (T := tab45 B) (good45 hB).tab Tryd.func45 rfl rfl rfl ?_
  intro args os C rs os' hc hC
  unfold cFailsF at hc
  split at hc
  case h_2 => cases hc
  rename_i a e n
  cases hc
  refine ⟨by simp only [List.length_cons, List.length_nil, tab45]; omega, rfl, ?_⟩
  intro X hP hT hr
  have hG : MGood X.P X.T := by rw [hP, hT]; exact good45 hB
  simp only [Tryd.f45, argEnv, ioList, ioB]
  refine r_seq ?_
  refine r_region hG (by simp only [hT, tab45, mx0, mx1, mx2, mx3, mx4, mx5, effOp, endCall, callOp, appendOp, sliceLV, Ty.fieldTy, Ty.fieldOf, Nat.reduceLT, Nat.reduceEqDiff, Nat.reduceAdd, Nat.reduceMul, Nat.reduceSub, Nat.reduceLeDiff, Nat.reduceBEq, Nat.reduceBNe, reduceIte, reduceDIte, reduceCtorEq]; rfl) ?_ ?_ -- R0
  · trivial
  refine k_seq ?_
  refine r_seq ?_
  refine r_region hG (by simp only [hT, tab45, mx0, mx1, mx2, mx3, mx4, mx5, effOp, endCall, callOp, appendOp, sliceLV, Ty.fieldTy, Ty.fieldOf, Nat.reduceLT, Nat.reduceEqDiff, Nat.reduceAdd, Nat.reduceMul, Nat.reduceSub, Nat.reduceLeDiff, Nat.reduceBEq, Nat.reduceBNe, reduceIte, reduceDIte, reduceCtorEq]; rfl) ?_ ?_ -- R1
  · try simp only [and_true, true_and]
    (repeat' (first | apply And.intro | intro _)) <;> (try simp only [decide_eq_true_eq, decide_eq_false_iff_not, Bool.not_eq_true', beq_iff_eq, Int.toNat_natCast] at *) <;> first | assumption | omega | trivial | (simp_all; done) | (simp_all; omega)
  refine k_seq ?_
  refine r_ret ?_
  refine ⟨[], ?_⟩
  simp only [hT, tab45, mr0, mr1, mr2, Nat.reduceLT, Nat.reduceEqDiff, Nat.reduceAdd, Nat.reduceMul, Nat.reduceSub, Nat.reduceLeDiff, Nat.reduceBEq, Nat.reduceBNe, reduceIte, reduceDIte, reduceCtorEq]
  skip

end Go.Proofs.YtkgbdpmhdplddaaDoor
end

section
/- The functions of the package exact, one after the other: each meets its contract. -/
set_option linter.unusedSimpArgs false
set_option linter.unusedVariables false
set_option maxRecDepth 100000
namespace Go.Proofs.YtkgbdpmhdplddaaDoor
open Go Go.Cm Go.Proofs

def tab59 (B : Base) : Tab := { types := [(53, (.slice (.int .u32))), (82, (.int .u32)), (83, (.int .u64))], elems := [], cons := [(61, cBack)], hint := [], N := 16, base := B }
theorem good59 {B : Base} (hB : Tabs B) : MGood Tryd.prog (tab59 B) := ⟨⟨types_cons ty53 (types_cons ty82 (types_cons ty83 (types_nil))), elems_nil, by simp only [tab59, ioB]; omega⟩, cons_ok (cals_cons (cal_ok Tryd.func61 (by kernel_rfl) rfl (valid61 hB)) (cals_nil)), by kernel_rfl⟩
def cValue : Con := fun l os => match l, os with
  | [.z (.slice (.int .u32)) m], [] => some (Lim m ∧ m.length ≤ 2, [.z (.int .u64) (valL m)], [])
  | _, _ => none

theorem valid59 {B : Base} (hB : Tabs B) : Valid B Tryd.prog 59 cValue := by
  refine valid_of_J (T := tab59 B) (good59 hB).tab Tryd.func59 rfl rfl rfl ?_
  intro args os C rs os' hc hC
  unfold cValue at hc
  split at hc
  case h_2 => cases hc
  rename_i m
  cases hc
  refine ⟨by simp only [List.length_cons, List.length_nil, tab59]; omega, rfl, ?_⟩
  intro X hP hT hr
  have hG : MGood X.P X.T := by rw [hP, hT]; exact good59 hB
  simp only [Tryd.f59, argEnv, ioList, ioB]
  refine r_seq ?_
  refine r_region hG (by simp only [hT, tab59, cBack, mx0, mx1, mx2, mx3, mx4, mx5, effOp, endCall, callOp, appendOp, sliceLV, Ty.fieldTy, Ty.fieldOf, Nat.reduceLT, Nat.reduceEqDiff, Nat.reduceAdd, Nat.reduceMul, Nat.reduceSub, Nat.reduceLeDiff, Nat.reduceBEq, Nat.reduceBNe, reduceIte, reduceDIte, reduceCtorEq]; rfl) ?_ ?_ -- R0
  · trivial
  refine k_seq ?_
  refine r_seq ?_
  refine r_region hG (by simp only [hT, tab59, cBack, mx0, mx1, mx2, mx3, mx4, mx5, effOp, endCall, callOp, appendOp, sliceLV, Ty.fieldTy, Ty.fieldOf, Nat.reduceLT, Nat.reduceEqDiff, Nat.reduceAdd, Nat.reduceMul, Nat.reduceSub, Nat.reduceLeDiff, Nat.reduceBEq, Nat.reduceBNe, reduceIte, reduceDIte, reduceCtorEq]; rfl) ?_ ?_ -- R1
  · trivial
  refine k_seq ?_
  refine r_seq ?_
  refine r_seq ?_
  refine r_region hG (by simp only [hT, tab59, cBack, mx0, mx1, mx2, mx3, mx4, mx5, effOp, endCall, callOp, appendOp, sliceLV, Ty.fieldTy, Ty.fieldOf, Nat.reduceLT, Nat.reduceEqDiff, Nat.reduceAdd, Nat.reduceMul, Nat.reduceSub, Nat.reduceLeDiff, Nat.reduceBEq, Nat.reduceBNe, reduceIte, reduceDIte, reduceCtorEq]; rfl) ?_ ?_ -- R2
  · trivial
  refine k_seq ?_
  refine j_block ?_
  refine j_range hr (gf := 74) (caps := [.z (.ptr (.slice (.int .u32))) m]) (items := backItems m) (by simp only [hT, tab59, mx0, mx1, mx2, mx3, mx4, mx5, effOp, endCall, callOp, appendOp, sliceLV, Ty.fieldTy, Ty.fieldOf, Nat.reduceLT, Nat.reduceEqDiff, Nat.reduceAdd, Nat.reduceMul, Nat.reduceSub, Nat.reduceLeDiff, Nat.reduceBEq, Nat.reduceBNe, reduceIte, reduceDIte, reduceCtorEq]; try rfl) (by rfl) (by rw [hP]; exact seq_back m) (by rfl) [3] (by rfl) (by simp only [hT, tab59]; try rfl) (fun (k : Nat) (z : Int) => (⟨[(3, .l (.ownP 3 0))], [(3, .box 83 [.z (.int .u64) z])]⟩ : AState)) (fun (k : Nat) (z : Int) => z = valL (List.drop (List.length m - k) m)) 0 ?_ ?_ ?_ ?_ ?_
  · simp only [ml0, ml1, Nat.reduceLT, Nat.reduceEqDiff, Nat.reduceAdd, Nat.reduceMul, Nat.reduceSub, Nat.reduceLeDiff, Nat.reduceBEq, Nat.reduceBNe, reduceIte, reduceDIte, reduceCtorEq]
  · rw [drop_all]; rfl
  · intro k z; rfl
  · intro k hk
    rintro z hz
    try dsimp only at hz
    have hk : k < List.length m := by simpa [backItems] using hk
    refine ⟨_, by simp only [hT, tab59, backItems, backItem, mx0, mx1, mx2, mx3, mx4, mx5, effOp, endCall, callOp, appendOp, sliceLV, Ty.fieldTy, Ty.fieldOf, Nat.reduceLT, Nat.reduceEqDiff, Nat.reduceAdd, Nat.reduceMul, Nat.reduceSub, Nat.reduceLeDiff, Nat.reduceBEq, Nat.reduceBNe, reduceIte, reduceDIte, reduceCtorEq, List.getElem_map, List.getElem_range]; rfl, ?_⟩
    intro X' hP' hT'
    have hG' : MGood X'.P X'.T := by rw [hP', hT']; exact hG.keep _
    rw [hT] at hT'
    refine j_block ?_
    refine r_region hG' (by simp only [hT', tab59, cBack, mx0, mx1, mx2, mx3, mx4, mx5, effOp, endCall, callOp, appendOp, sliceLV, Ty.fieldTy, Ty.fieldOf, Nat.reduceLT, Nat.reduceEqDiff, Nat.reduceAdd, Nat.reduceMul, Nat.reduceSub, Nat.reduceLeDiff, Nat.reduceBEq, Nat.reduceBNe, reduceIte, reduceDIte, reduceCtorEq]; rfl) ?_ ?_ -- R4
    · trivial
    refine k_block ?_
    show ∃ z, _
    simp only [ml0, ml1, Nat.reduceLT, Nat.reduceEqDiff, Nat.reduceAdd, Nat.reduceMul, Nat.reduceSub, Nat.reduceLeDiff, Nat.reduceBEq, Nat.reduceBNe, reduceIte, reduceDIte, reduceCtorEq]
    exact value_round hC.1 hC.2 hk hz
  · rintro z hz
    try dsimp only at hz
    rw [show List.length (backItems m) = List.length m by simp [backItems], Nat.sub_self, List.drop_zero] at hz
    refine k_block ?_
    refine k_seq ?_
    refine r_seq ?_
    refine r_region hG (by simp only [hT, tab59, cBack, mx0, mx1, mx2, mx3, mx4, mx5, effOp, endCall, callOp, appendOp, sliceLV, Ty.fieldTy, Ty.fieldOf, Nat.reduceLT, Nat.reduceEqDiff, Nat.reduceAdd, Nat.reduceMul, Nat.reduceSub, Nat.reduceLeDiff, Nat.reduceBEq, Nat.reduceBNe, reduceIte, reduceDIte, reduceCtorEq]; rfl) ?_ ?_ -- R5
    · trivial
    refine k_seq ?_
    refine r_ret ?_
    refine ⟨[], ?_⟩
    simp only [hT, tab59, mr0, mr1, mr2, Nat.reduceLT, Nat.reduceEqDiff, Nat.reduceAdd, Nat.reduceMul, Nat.reduceSub, Nat.reduceLeDiff, Nat.reduceBEq, Nat.reduceBNe, reduceIte, reduceDIte, reduceCtorEq]
    exact hz

def tab38 (B : Base) : Tab := { types := [(3, (.int .i64)), (4, .bool), (53, (.slice (.int .u32))), (55, (.st (.pair .bool (.slice (.int .u32))))), (82, (.int .u32))], elems := [], cons := [(34, cCmp), (37, cSmall), (61, cBack)], hint := [], N := 33, base := B }
theorem good38 {B : Base} (hB : Tabs B) : MGood Tryd.prog (tab38 B) := ⟨⟨types_cons ty3 (types_cons ty4 (types_cons ty53 (types_cons ty55 (types_cons ty82 (types_nil))))), elems_nil, by simp only [tab38, ioB]; omega⟩, cons_ok (cals_cons (cal_ok Tryd.func34 (by kernel_rfl) rfl (valid34 hB)) (cals_cons (cal_ok Tryd.func37 (by kernel_rfl) rfl (valid37 hB)) (cals_cons (cal_ok Tryd.func61 (by kernel_rfl) rfl (valid61 hB)) (cals_nil)))), by kernel_rfl⟩
def cInt : Con := fun l os => match l, os with
  | [.z (.st (.pair .bool (.slice (.int .u32)))) x], [] => some (WOK x ∧ x.2.length + 3 < CAP, [.z (.int .i64) (if inI64 (dec x) = true then dec x else 0), .z .bool (inI64 (dec x))], [])
  | _, _ => none

theorem valid38 {B : Base} (hB : Tabs B) : Valid B Tryd.prog 38 cInt := by
  refine valid_of_J (T := tab38 B) (good38 hB).tab Tryd.func38 rfl rfl rfl ?_
  intro args os C rs os' hc hC
  unfold cInt at hc
  split at hc
  case h_2 => cases hc
  rename_i x
  cases hc
  refine ⟨by simp only [List.length_cons, List.length_nil, tab38]; omega, rfl, ?_⟩
  intro X hP hT hr
  have hG : MGood X.P X.T := by rw [hP, hT]; exact good38 hB
  simp only [Tryd.f38, argEnv, ioList, ioB]
  refine r_seq ?_
  refine r_region hG (by simp only [hT, tab38, cSmall, cCmp, cBack, mx0, mx1, mx2, mx3, mx4, mx5, effOp, endCall, callOp, appendOp, sliceLV, Ty.fieldTy, Ty.fieldOf, Nat.reduceLT, Nat.reduceEqDiff, Nat.reduceAdd, Nat.reduceMul, Nat.reduceSub, Nat.reduceLeDiff, Nat.reduceBEq, Nat.reduceBNe, reduceIte, reduceDIte, reduceCtorEq]; rfl) ?_ ?_ -- R0
  · trivial
  refine k_seq ?_
  refine r_seq ?_
  refine r_seq ?_
  refine r_draw hG (by simp only [hT, mt0, tab38, cSmall, cCmp, cBack, mx0, mx1, mx2, mx3, mx4, mx5, effOp, endCall, callOp, appendOp, sliceLV, Ty.fieldTy, Ty.fieldOf, Nat.reduceLT, Nat.reduceEqDiff, Nat.reduceAdd, Nat.reduceMul, Nat.reduceSub, Nat.reduceLeDiff, Nat.reduceBEq, Nat.reduceBNe, reduceIte, reduceDIte, reduceCtorEq]; rfl) (by kernel_rfl) (by rfl) (by rfl) ?_ ?_ -- R1
  · try simp only [and_true, true_and]
    have e1 := enc_small (n := -9223372036854775808) (by unfold I64; omega)
    have e2 := enc_small (n := 9223372036854775807) (by unfold I64; omega)
    have hl := hC.2
    exact ⟨by unfold I64; omega, ⟨hC.1, e1.1, by omega⟩, fun _ => by unfold I64; omega, fun h => ⟨h, hC.1, e2.1, by omega⟩, fun h => h, fun h => by rw [h]; rfl⟩
  refine k_seq ?_
  refine r_cond (by simp only [hT, tab38, mx0, mx1, mx2, mx3, mx4, mx5, effOp, endCall, callOp, appendOp, sliceLV, Ty.fieldTy, Ty.fieldOf, Nat.reduceLT, Nat.reduceEqDiff, Nat.reduceAdd, Nat.reduceMul, Nat.reduceSub, Nat.reduceLeDiff, Nat.reduceBEq, Nat.reduceBNe, reduceIte, reduceDIte, reduceCtorEq]; rfl) ?_ ?_
  · intro hb0
    rw [inI64_cond] at hb0
    simp only [Bool.not_eq_true'] at hb0
    refine r_seq ?_
    refine r_region hG (by simp only [hT, tab38, cSmall, cCmp, cBack, mx0, mx1, mx2, mx3, mx4, mx5, effOp, endCall, callOp, appendOp, sliceLV, Ty.fieldTy, Ty.fieldOf, Nat.reduceLT, Nat.reduceEqDiff, Nat.reduceAdd, Nat.reduceMul, Nat.reduceSub, Nat.reduceLeDiff, Nat.reduceBEq, Nat.reduceBNe, reduceIte, reduceDIte, reduceCtorEq]; rfl) ?_ ?_ -- R2
    · trivial
    refine k_seq ?_
    refine r_ret ?_
    refine k_seq_ret ?_
    refine ⟨[], ?_⟩
    simp only [hT, tab38, mr0, mr1, mr2, Nat.reduceLT, Nat.reduceEqDiff, Nat.reduceAdd, Nat.reduceMul, Nat.reduceSub, Nat.reduceLeDiff, Nat.reduceBEq, Nat.reduceBNe, reduceIte, reduceDIte, reduceCtorEq]
    rw [if_neg (by rw [hb0]; decide), hb0]; exact ⟨rfl, rfl⟩
  · intro hb0
    rw [inI64_cond] at hb0
    simp only [Bool.not_eq_false'] at hb0
    refine r_skip ?_
    refine k_seq ?_
    refine r_seq ?_
    refine r_region hG (by simp only [hT, tab38, cSmall, cCmp, cBack, mx0, mx1, mx2, mx3, mx4, mx5, effOp, endCall, callOp, appendOp, sliceLV, Ty.fieldTy, Ty.fieldOf, Nat.reduceLT, Nat.reduceEqDiff, Nat.reduceAdd, Nat.reduceMul, Nat.reduceSub, Nat.reduceLeDiff, Nat.reduceBEq, Nat.reduceBNe, reduceIte, reduceDIte, reduceCtorEq]; rfl) ?_ ?_ -- R3
    · trivial
    refine k_seq ?_
    refine r_seq ?_
    refine r_seq ?_
    refine r_region hG (by simp only [hT, tab38, cSmall, cCmp, cBack, mx0, mx1, mx2, mx3, mx4, mx5, effOp, endCall, callOp, appendOp, sliceLV, Ty.fieldTy, Ty.fieldOf, Nat.reduceLT, Nat.reduceEqDiff, Nat.reduceAdd, Nat.reduceMul, Nat.reduceSub, Nat.reduceLeDiff, Nat.reduceBEq, Nat.reduceBNe, reduceIte, reduceDIte, reduceCtorEq]; rfl) ?_ ?_ -- R4
    · trivial
    refine k_seq ?_
    refine j_block ?_
    refine j_range hr (gf := 74) (caps := [.z (.ptr (.slice (.int .u32))) x.2]) (items := backItems x.2) (by simp only [hT, tab38, mx0, mx1, mx2, mx3, mx4, mx5, effOp, endCall, callOp, appendOp, sliceLV, Ty.fieldTy, Ty.fieldOf, Nat.reduceLT, Nat.reduceEqDiff, Nat.reduceAdd, Nat.reduceMul, Nat.reduceSub, Nat.reduceLeDiff, Nat.reduceBEq, Nat.reduceBNe, reduceIte, reduceDIte, reduceCtorEq]; try rfl) (by rfl) (by rw [hP]; exact seq_back x.2) (by rfl) [1, 4] (by rfl) (by simp only [hT, tab38]; try rfl) (fun (k : Nat) (z : Int) => (⟨[(1, .l (.z (.ptr (.st (.pair .bool (.slice (.int .u32))))) x)), (4, .l (.ownP 4 0))], [(4, .box 3 [.z (.int .i64) z])]⟩ : AState)) (fun (k : Nat) (z : Int) => z = - valL (List.drop (List.length x.2 - k) x.2)) 0 ?_ ?_ ?_ ?_ ?_
    · simp only [ml0, ml1, Nat.reduceLT, Nat.reduceEqDiff, Nat.reduceAdd, Nat.reduceMul, Nat.reduceSub, Nat.reduceLeDiff, Nat.reduceBEq, Nat.reduceBNe, reduceIte, reduceDIte, reduceCtorEq]
    · rw [drop_all]; rfl
    · intro k z; rfl
    · intro k hk
      rintro z hz
      try dsimp only at hz
      have hk : k < List.length x.2 := by simpa [backItems] using hk
      refine ⟨_, by simp only [hT, tab38, backItems, backItem, mx0, mx1, mx2, mx3, mx4, mx5, effOp, endCall, callOp, appendOp, sliceLV, Ty.fieldTy, Ty.fieldOf, Nat.reduceLT, Nat.reduceEqDiff, Nat.reduceAdd, Nat.reduceMul, Nat.reduceSub, Nat.reduceLeDiff, Nat.reduceBEq, Nat.reduceBNe, reduceIte, reduceDIte, reduceCtorEq, List.getElem_map, List.getElem_range]; rfl, ?_⟩
      intro X' hP' hT'
      have hG' : MGood X'.P X'.T := by rw [hP', hT']; exact hG.keep _
      rw [hT] at hT'
      refine j_block ?_
      refine r_region hG' (by simp only [hT', tab38, cSmall, cCmp, cBack, mx0, mx1, mx2, mx3, mx4, mx5, effOp, endCall, callOp, appendOp, sliceLV, Ty.fieldTy, Ty.fieldOf, Nat.reduceLT, Nat.reduceEqDiff, Nat.reduceAdd, Nat.reduceMul, Nat.reduceSub, Nat.reduceLeDiff, Nat.reduceBEq, Nat.reduceBNe, reduceIte, reduceDIte, reduceCtorEq]; rfl) ?_ ?_ -- R6
      · trivial
      refine k_block ?_
      show ∃ z, _
      simp only [ml0, ml1, Nat.reduceLT, Nat.reduceEqDiff, Nat.reduceAdd, Nat.reduceMul, Nat.reduceSub, Nat.reduceLeDiff, Nat.reduceBEq, Nat.reduceBNe, reduceIte, reduceDIte, reduceCtorEq]
      exact int_round hC.1 hb0 hk hz
    · rintro z hz
      try dsimp only at hz
      rw [show List.length (backItems x.2) = List.length x.2 by simp [backItems], Nat.sub_self, List.drop_zero] at hz
      refine k_block ?_
      refine k_seq ?_
      refine r_cut (fun (z : Int) => (⟨[(4, .l (.ownP 4 0))], [(4, .box 3 [.z (.int .i64) z])]⟩ : AState)) (fun z => z = dec x) ?_ ?_
      · refine r_seq ?_
        refine r_region hG (by simp only [hT, tab38, cSmall, cCmp, cBack, mx0, mx1, mx2, mx3, mx4, mx5, effOp, endCall, callOp, appendOp, sliceLV, Ty.fieldTy, Ty.fieldOf, Nat.reduceLT, Nat.reduceEqDiff, Nat.reduceAdd, Nat.reduceMul, Nat.reduceSub, Nat.reduceLeDiff, Nat.reduceBEq, Nat.reduceBNe, reduceIte, reduceDIte, reduceCtorEq]; rfl) ?_ ?_ -- R7
        · trivial
        refine k_seq ?_
        refine r_cond (by simp only [hT, tab38, mx0, mx1, mx2, mx3, mx4, mx5, effOp, endCall, callOp, appendOp, sliceLV, Ty.fieldTy, Ty.fieldOf, Nat.reduceLT, Nat.reduceEqDiff, Nat.reduceAdd, Nat.reduceMul, Nat.reduceSub, Nat.reduceLeDiff, Nat.reduceBEq, Nat.reduceBNe, reduceIte, reduceDIte, reduceCtorEq]; rfl) ?_ ?_
        · intro hb1
          try simp only [decide_eq_true_eq, decide_eq_false_iff_not, beq_iff_eq, bne_iff_ne, Bool.not_eq_true', Bool.and_eq_true] at hb1
          refine r_region hG (by simp only [hT, tab38, cSmall, cCmp, cBack, mx0, mx1, mx2, mx3, mx4, mx5, effOp, endCall, callOp, appendOp, sliceLV, Ty.fieldTy, Ty.fieldOf, Nat.reduceLT, Nat.reduceEqDiff, Nat.reduceAdd, Nat.reduceMul, Nat.reduceSub, Nat.reduceLeDiff, Nat.reduceBEq, Nat.reduceBNe, reduceIte, reduceDIte, reduceCtorEq]; rfl) ?_ ?_ -- R8
          · trivial
          show ∃ z, _
          simp only [ml0, ml1, Nat.reduceLT, Nat.reduceEqDiff, Nat.reduceAdd, Nat.reduceMul, Nat.reduceSub, Nat.reduceLeDiff, Nat.reduceBEq, Nat.reduceBNe, reduceIte, reduceDIte, reduceCtorEq]
          first | exact (int_fin hC.1 hb0 hz).1 hb1 | exact (int_fin hC.1 hb0 hz).2 hb1
        · intro hb1
          try simp only [decide_eq_true_eq, decide_eq_false_iff_not, beq_eq_false_iff_ne, bne_eq_false_iff_eq, Bool.not_eq_false', Bool.and_eq_false_imp] at hb1
          refine r_skip ?_
          show ∃ z, _
          simp only [ml0, ml1, Nat.reduceLT, Nat.reduceEqDiff, Nat.reduceAdd, Nat.reduceMul, Nat.reduceSub, Nat.reduceLeDiff, Nat.reduceBEq, Nat.reduceBNe, reduceIte, reduceDIte, reduceCtorEq]
          first | exact (int_fin hC.1 hb0 hz).1 hb1 | exact (int_fin hC.1 hb0 hz).2 hb1
      rintro z2 hz2
      try dsimp only at hz2
      refine r_seq ?_
      refine r_region hG (by simp only [hT, tab38, cSmall, cCmp, cBack, mx0, mx1, mx2, mx3, mx4, mx5, effOp, endCall, callOp, appendOp, sliceLV, Ty.fieldTy, Ty.fieldOf, Nat.reduceLT, Nat.reduceEqDiff, Nat.reduceAdd, Nat.reduceMul, Nat.reduceSub, Nat.reduceLeDiff, Nat.reduceBEq, Nat.reduceBNe, reduceIte, reduceDIte, reduceCtorEq]; rfl) ?_ ?_ -- R9
      · trivial
      refine k_seq ?_
      refine r_ret ?_
      refine ⟨[], ?_⟩
      simp only [hT, tab38, mr0, mr1, mr2, Nat.reduceLT, Nat.reduceEqDiff, Nat.reduceAdd, Nat.reduceMul, Nat.reduceSub, Nat.reduceLeDiff, Nat.reduceBEq, Nat.reduceBNe, reduceIte, reduceDIte, reduceCtorEq]
      rw [if_pos hb0, hb0]; exact ⟨hz2, rfl⟩

end Go.Proofs.YtkgbdpmhdplddaaDoor
end

section
/- The functions of the package exact, one after the other: each meets its contract. -/
set_option linter.unusedSimpArgs false
set_option linter.unusedVariables false
set_option maxRecDepth 100000
namespace Go.Proofs.YtkgbdpmhdplddaaDoor
open Go Go.Cm Go.Proofs

def tab54 (B : Base) : Tab := { types := [(3, (.int .i64)), (4, .bool), (9, .str), (53, (.slice (.int .u32))), (55, (.st (.pair .bool (.slice (.int .u32))))), (82, (.int .u32)), (83, (.int .u64))], elems := [(53, 82)], cons := [(17, cTrimPre), (49, cWhole), (67, cParse)], hint := [], N := 44, base := B }
theorem good54 {B : Base} (hB : Tabs B) : MGood Tryd.prog (tab54 B) := ⟨⟨types_cons ty3 (types_cons ty4 (types_cons ty9 (types_cons ty53 (types_cons ty55 (types_cons ty82 (types_cons ty83 (types_nil))))))), elems_cons (by kernel_rfl) (elems_nil), by simp only [tab54, ioB]; omega⟩, cons_ok (cals_cons (cal_ok Tryd.func17 (by kernel_rfl) rfl (valid17 hB)) (cals_cons (cal_ok Tryd.func49 (by kernel_rfl) rfl (valid49 hB)) (cals_cons (cal_ok Tryd.func67 (by kernel_rfl) rfl (valid67 hB)) (cals_nil)))), by kernel_rfl⟩
def cRead : Con := fun l os => match l, os with
  | [.z .str s], [] => some (chk s = 0, [.z (.st (.pair .bool (.slice (.int .u32)))) (enc (numI s))], [])
  | _, _ => none

theorem valid54 {B : Base} (hB : Tabs B) : Valid B Tryd.prog 54 cRead := by
  refine valid_of_J (T := tab54 B) (good54 hB).tab Tryd.func54 rfl rfl rfl ?_
  intro args os C rs os' hc hC
  unfold cRead at hc
  split at hc
  case h_2 => cases hc
  rename_i s
  cases hc
  refine ⟨by simp only [List.length_cons, List.length_nil, tab54]; omega, rfl, ?_⟩
  intro X hP hT hr
  have hG : MGood X.P X.T := by rw [hP, hT]; exact good54 hB
  simp only [Tryd.f54, argEnv, ioList, ioB]
  refine r_seq ?_
  refine r_region hG (by simp only [hT, tab54, cTrimPre, cParse, cWhole, mx0, mx1, mx2, mx3, mx4, mx5, effOp, endCall, callOp, appendOp, sliceLV, Ty.fieldTy, Ty.fieldOf, Nat.reduceLT, Nat.reduceEqDiff, Nat.reduceAdd, Nat.reduceMul, Nat.reduceSub, Nat.reduceLeDiff, Nat.reduceBEq, Nat.reduceBNe, reduceIte, reduceDIte, reduceCtorEq]; rfl) ?_ ?_ -- R0
  · trivial
  refine k_seq ?_
  refine r_seq ?_
  refine r_region hG (by simp only [hT, tab54, cTrimPre, cParse, cWhole, mx0, mx1, mx2, mx3, mx4, mx5, effOp, endCall, callOp, appendOp, sliceLV, Ty.fieldTy, Ty.fieldOf, Nat.reduceLT, Nat.reduceEqDiff, Nat.reduceAdd, Nat.reduceMul, Nat.reduceSub, Nat.reduceLeDiff, Nat.reduceBEq, Nat.reduceBNe, reduceIte, reduceDIte, reduceCtorEq]; rfl) ?_ ?_ -- R1
  · trivial
  refine k_seq ?_
  refine r_seq ?_
  refine r_region hG (by simp only [hT, tab54, cTrimPre, cParse, cWhole, mx0, mx1, mx2, mx3, mx4, mx5, effOp, endCall, callOp, appendOp, sliceLV, Ty.fieldTy, Ty.fieldOf, Nat.reduceLT, Nat.reduceEqDiff, Nat.reduceAdd, Nat.reduceMul, Nat.reduceSub, Nat.reduceLeDiff, Nat.reduceBEq, Nat.reduceBNe, reduceIte, reduceDIte, reduceCtorEq]; rfl) ?_ ?_ -- R2
  · trivial
  refine k_seq ?_
  refine r_seq ?_
  refine r_seq ?_
  refine r_region hG (by simp only [hT, tab54, cTrimPre, cParse, cWhole, mx0, mx1, mx2, mx3, mx4, mx5, effOp, endCall, callOp, appendOp, sliceLV, Ty.fieldTy, Ty.fieldOf, Nat.reduceLT, Nat.reduceEqDiff, Nat.reduceAdd, Nat.reduceMul, Nat.reduceSub, Nat.reduceLeDiff, Nat.reduceBEq, Nat.reduceBNe, reduceIte, reduceDIte, reduceCtorEq]; rfl) ?_ ?_ -- R3
  · trivial
  refine k_seq ?_
  refine j_block ?_
  refine j_loop (fun (z : Nat × List Int) => (⟨[(3, .l (.z .str (trimPre s [45]))), (5, .l (.z (.int .i64) (((trimPre s [45]).length : Int) - 9 * (z.1 : Int)))), (4, .l (.ownP 4 0)), (2, .l (.ownP 2 0))], [(4, .box 55 [.z .bool (decide ((trimPre s [45]).length < s.length)), .ownS 37]), (37, .arr (.int .u32) 82 z.2), (2, .box 55 [.z .bool false, .val (.slice none 0 0)])]⟩ : AState)) (fun z => ReadPhi (trimPre s [45]) z.1 z.2) (fun z => (trimPre s [45]).length + 9 - 9 * z.1) (0, []) ?_ ?_ ?_
  · simp only [ml0, ml1, Nat.reduceLT, Nat.reduceEqDiff, Nat.reduceAdd, Nat.reduceMul, Nat.reduceSub, Nat.reduceLeDiff, Nat.reduceBEq, Nat.reduceBNe, reduceIte, reduceDIte, reduceCtorEq]
    exact ⟨by show ((trimPre s [45]).length : Int) = ((trimPre s [45]).length : Int) - 9 * ((0 : Nat) : Int); omega, by congr 1; simp, by unfold ioB; omega⟩
  · exact read_start
  · rintro ⟨r, out⟩ hz
    try dsimp only at hz
    obtain ⟨d1, d2, d3, d4⟩ := chk_ok hC
    have hz1 := hz.1
    have hz4 := hz.2.2.2
    refine r_seq ?_
    refine r_seq ?_
    refine r_region hG (by simp only [hT, tab54, cTrimPre, cParse, cWhole, mx0, mx1, mx2, mx3, mx4, mx5, effOp, endCall, callOp, appendOp, sliceLV, Ty.fieldTy, Ty.fieldOf, Nat.reduceLT, Nat.reduceEqDiff, Nat.reduceAdd, Nat.reduceMul, Nat.reduceSub, Nat.reduceLeDiff, Nat.reduceBEq, Nat.reduceBNe, reduceIte, reduceDIte, reduceCtorEq]; rfl) ?_ ?_ -- R4
    · trivial
    refine k_seq ?_
    refine r_cond (by simp only [hT, tab54, mx0, mx1, mx2, mx3, mx4, mx5, effOp, endCall, callOp, appendOp, sliceLV, Ty.fieldTy, Ty.fieldOf, Nat.reduceLT, Nat.reduceEqDiff, Nat.reduceAdd, Nat.reduceMul, Nat.reduceSub, Nat.reduceLeDiff, Nat.reduceBEq, Nat.reduceBNe, reduceIte, reduceDIte, reduceCtorEq]; rfl) ?_ ?_
    · intro hb0
      try simp only [decide_eq_true_eq, decide_eq_false_iff_not, beq_iff_eq, bne_iff_ne, Bool.not_eq_true', Bool.and_eq_true] at hb0
      refine r_skip ?_
      refine k_seq ?_
      refine r_seq ?_
      refine j_block ?_
      refine r_seq ?_
      refine r_region hG (by simp only [hT, tab54, cTrimPre, cParse, cWhole, mx0, mx1, mx2, mx3, mx4, mx5, effOp, endCall, callOp, appendOp, sliceLV, Ty.fieldTy, Ty.fieldOf, Nat.reduceLT, Nat.reduceEqDiff, Nat.reduceAdd, Nat.reduceMul, Nat.reduceSub, Nat.reduceLeDiff, Nat.reduceBEq, Nat.reduceBNe, reduceIte, reduceDIte, reduceCtorEq]; rfl) ?_ ?_ -- R6
      · try simp only [and_true, true_and]
        obtain ⟨e1, e2, e3⟩ := read_idx hb0 d3
        obtain ⟨q1, q2, q3, q4, q5⟩ := read_next d1 hz hb0 rfl
        rw [e1, e2, e3]
        exact ⟨⟨by omega, by omega, by omega⟩, q1, q2, q3⟩
      refine k_seq ?_
      refine r_region hG (by simp only [hT, tab54, cTrimPre, cParse, cWhole, mx0, mx1, mx2, mx3, mx4, mx5, effOp, endCall, callOp, appendOp, sliceLV, Ty.fieldTy, Ty.fieldOf, Nat.reduceLT, Nat.reduceEqDiff, Nat.reduceAdd, Nat.reduceMul, Nat.reduceSub, Nat.reduceLeDiff, Nat.reduceBEq, Nat.reduceBNe, reduceIte, reduceDIte, reduceCtorEq]; rfl) ?_ ?_ -- R7
      · try simp only [and_true, true_and]
        unfold Cm.Roomy; omega
      refine k_block ?_
      refine k_seq ?_
      refine r_region hG (by simp only [hT, tab54, cTrimPre, cParse, cWhole, mx0, mx1, mx2, mx3, mx4, mx5, effOp, endCall, callOp, appendOp, sliceLV, Ty.fieldTy, Ty.fieldOf, Nat.reduceLT, Nat.reduceEqDiff, Nat.reduceAdd, Nat.reduceMul, Nat.reduceSub, Nat.reduceLeDiff, Nat.reduceBEq, Nat.reduceBNe, reduceIte, reduceDIte, reduceCtorEq]; rfl) ?_ ?_ -- R5
      · trivial
      show ∃ z, _
      simp only [ml0, ml1, Nat.reduceLT, Nat.reduceEqDiff, Nat.reduceAdd, Nat.reduceMul, Nat.reduceSub, Nat.reduceLeDiff, Nat.reduceBEq, Nat.reduceBNe, reduceIte, reduceDIte, reduceCtorEq]
      obtain ⟨e1, e2, e3⟩ := read_idx hb0 d3
      obtain ⟨q1, q2, q3, q4, q5⟩ := read_next d1 hz hb0 rfl
      rw [e1, e2, e3]
      exact ⟨r + 1, by show ((trimPre s [45]).length : Int) - 9 * (r : Int) - 9 = ((trimPre s [45]).length : Int) - 9 * ((r + 1 : Nat) : Int); omega, q4, by omega⟩
    · intro hb0
      try simp only [decide_eq_true_eq, decide_eq_false_iff_not, beq_eq_false_iff_ne, bne_eq_false_iff_eq, Bool.not_eq_false', Bool.and_eq_false_imp] at hb0
      refine r_exit ?_
      refine k_seq_exit ?_
      refine k_round_exit ?_
      refine k_block_exit ?_
      refine k_seq ?_
      refine r_seq ?_
      refine r_region hG (by simp only [hT, tab54, cTrimPre, cParse, cWhole, mx0, mx1, mx2, mx3, mx4, mx5, effOp, endCall, callOp, appendOp, sliceLV, Ty.fieldTy, Ty.fieldOf, Nat.reduceLT, Nat.reduceEqDiff, Nat.reduceAdd, Nat.reduceMul, Nat.reduceSub, Nat.reduceLeDiff, Nat.reduceBEq, Nat.reduceBNe, reduceIte, reduceDIte, reduceCtorEq]; rfl) ?_ ?_ -- R8
      · try simp only [and_true, true_and]
        exact ⟨hz.2.1, by unfold CAP; omega⟩
      refine k_seq ?_
      refine r_ret ?_
      refine ⟨[37], ?_⟩
      simp only [hT, tab54, mr0, mr1, mr2, Nat.reduceLT, Nat.reduceEqDiff, Nat.reduceAdd, Nat.reduceMul, Nat.reduceSub, Nat.reduceLeDiff, Nat.reduceBEq, Nat.reduceBNe, reduceIte, reduceDIte, reduceCtorEq]
      rw [read_end hz hb0]

def tab20 (B : Base) : Tab := { types := [(3, (.int .i64)), (5, (.int .u8)), (9, .str), (22, (.slice (.int .u8)))], elems := [(22, 5)], cons := [(17, cTrimPre)], hint := [], N := 38, base := B }
theorem good20 {B : Base} (hB : Tabs B) : MGood Tryd.prog (tab20 B) := ⟨⟨types_cons ty3 (types_cons ty5 (types_cons ty9 (types_cons ty22 (types_nil)))), elems_cons (by kernel_rfl) (elems_nil), by simp only [tab20, ioB]; omega⟩, cons_ok (cals_cons (cal_ok Tryd.func17 (by kernel_rfl) rfl (valid17 hB)) (cals_nil)), by kernel_rfl⟩
def cCheck : Con := fun l os => match l, os with
  | [.z .str s], [] => some (Short s, [.z (.int .i64) (chk s)], [])
  | _, _ => none

theorem valid20 {B : Base} (hB : Tabs B) : Valid B Tryd.prog 20 cCheck := by
  refine valid_of_J (T := tab20 B) (good20 hB).tab Tryd.func20 rfl rfl rfl ?_
  intro args os C rs os' hc hC
  unfold cCheck at hc
  split at hc
  case h_2 => cases hc
  rename_i s
  cases hc
  refine ⟨by simp only [List.length_cons, List.length_nil, tab20]; omega, rfl, ?_⟩
  intro X hP hT hr
  have hG : MGood X.P X.T := by rw [hP, hT]; exact good20 hB
  simp only [Tryd.f20, argEnv, ioList, ioB]
  refine r_seq ?_
  refine r_region hG (by simp only [hT, tab20, cTrimPre, mx0, mx1, mx2, mx3, mx4, mx5, effOp, endCall, callOp, appendOp, sliceLV, Ty.fieldTy, Ty.fieldOf, Nat.reduceLT, Nat.reduceEqDiff, Nat.reduceAdd, Nat.reduceMul, Nat.reduceSub, Nat.reduceLeDiff, Nat.reduceBEq, Nat.reduceBNe, reduceIte, reduceDIte, reduceCtorEq]; rfl) ?_ ?_ -- R0
  · trivial
  refine k_seq ?_
  refine j_scope ?_
  refine r_seq ?_
  refine r_region hG (by simp only [hT, tab20, cTrimPre, mx0, mx1, mx2, mx3, mx4, mx5, effOp, endCall, callOp, appendOp, sliceLV, Ty.fieldTy, Ty.fieldOf, Nat.reduceLT, Nat.reduceEqDiff, Nat.reduceAdd, Nat.reduceMul, Nat.reduceSub, Nat.reduceLeDiff, Nat.reduceBEq, Nat.reduceBNe, reduceIte, reduceDIte, reduceCtorEq]; rfl) ?_ ?_ -- R1
  · trivial
  refine k_seq ?_
  refine r_seq ?_
  refine r_region hG (by simp only [hT, tab20, cTrimPre, mx0, mx1, mx2, mx3, mx4, mx5, effOp, endCall, callOp, appendOp, sliceLV, Ty.fieldTy, Ty.fieldOf, Nat.reduceLT, Nat.reduceEqDiff, Nat.reduceAdd, Nat.reduceMul, Nat.reduceSub, Nat.reduceLeDiff, Nat.reduceBEq, Nat.reduceBNe, reduceIte, reduceDIte, reduceCtorEq]; rfl) ?_ ?_ -- R2
  · trivial
  refine k_seq ?_
  refine r_seq ?_
  refine r_label ?_
  refine k_seq ?_
  refine r_cut (fun (z : Int) => (⟨[(4, .l (.z (.int .i64) z))], []⟩ : AState)) (fun z => z = chk s) ?_ ?_
  · refine j_block ?_
    refine r_seq ?_
    refine r_region hG (by simp only [hT, tab20, cTrimPre, mx0, mx1, mx2, mx3, mx4, mx5, effOp, endCall, callOp, appendOp, sliceLV, Ty.fieldTy, Ty.fieldOf, Nat.reduceLT, Nat.reduceEqDiff, Nat.reduceAdd, Nat.reduceMul, Nat.reduceSub, Nat.reduceLeDiff, Nat.reduceBEq, Nat.reduceBNe, reduceIte, reduceDIte, reduceCtorEq]; rfl) ?_ ?_ -- R11
    · trivial
    refine k_seq ?_
    refine r_cond (by simp only [hT, tab20, mx0, mx1, mx2, mx3, mx4, mx5, effOp, endCall, callOp, appendOp, sliceLV, Ty.fieldTy, Ty.fieldOf, Nat.reduceLT, Nat.reduceEqDiff, Nat.reduceAdd, Nat.reduceMul, Nat.reduceSub, Nat.reduceLeDiff, Nat.reduceBEq, Nat.reduceBNe, reduceIte, reduceDIte, reduceCtorEq]; rfl) ?_ ?_
    · intro hb0
      try simp only [decide_eq_true_eq, decide_eq_false_iff_not, beq_iff_eq, bne_iff_ne, Bool.not_eq_true', Bool.and_eq_true] at hb0
      refine r_skip ?_
      refine k_block ?_
      show ∃ z, _
      simp only [ml0, ml1, Nat.reduceLT, Nat.reduceEqDiff, Nat.reduceAdd, Nat.reduceMul, Nat.reduceSub, Nat.reduceLeDiff, Nat.reduceBEq, Nat.reduceBNe, reduceIte, reduceDIte, reduceCtorEq]
      first | (rw [hb0]; exact chk_zero.symm) | exact (chk_first hb0 ((first_iff _).1 hb1)).symm | exact (chk_bad hb0 (first_not hb1) (by rw [bytes_len] at hb2; omega) (byte_bad hb3)).symm | (rw [bytes_len] at hb2; rw [chk_good hb0 (first_not hb1) (by rw [List.take_of_length_le (by omega)] at g2; exact g2)]; first | rw [if_pos (by omega)] | rw [if_neg (by omega)])
    · intro hb0
      try simp only [decide_eq_true_eq, decide_eq_false_iff_not, beq_eq_false_iff_ne, bne_eq_false_iff_eq, Bool.not_eq_false', Bool.and_eq_false_imp] at hb0
      refine r_seq ?_
      refine r_region hG (by simp only [hT, tab20, cTrimPre, mx0, mx1, mx2, mx3, mx4, mx5, effOp, endCall, callOp, appendOp, sliceLV, Ty.fieldTy, Ty.fieldOf, Nat.reduceLT, Nat.reduceEqDiff, Nat.reduceAdd, Nat.reduceMul, Nat.reduceSub, Nat.reduceLeDiff, Nat.reduceBEq, Nat.reduceBNe, reduceIte, reduceDIte, reduceCtorEq]; rfl) ?_ ?_ -- R12
      · try simp only [and_true, true_and]
        exact idx_side _
      refine k_seq ?_
      refine r_cond (by simp only [hT, tab20, mx0, mx1, mx2, mx3, mx4, mx5, effOp, endCall, callOp, appendOp, sliceLV, Ty.fieldTy, Ty.fieldOf, Nat.reduceLT, Nat.reduceEqDiff, Nat.reduceAdd, Nat.reduceMul, Nat.reduceSub, Nat.reduceLeDiff, Nat.reduceBEq, Nat.reduceBNe, reduceIte, reduceDIte, reduceCtorEq]; rfl) ?_ ?_
      · intro hb1
        try simp only [decide_eq_true_eq, decide_eq_false_iff_not, beq_iff_eq, bne_iff_ne, Bool.not_eq_true', Bool.and_eq_true] at hb1
        refine r_region hG (by simp only [hT, tab20, cTrimPre, mx0, mx1, mx2, mx3, mx4, mx5, effOp, endCall, callOp, appendOp, sliceLV, Ty.fieldTy, Ty.fieldOf, Nat.reduceLT, Nat.reduceEqDiff, Nat.reduceAdd, Nat.reduceMul, Nat.reduceSub, Nat.reduceLeDiff, Nat.reduceBEq, Nat.reduceBNe, reduceIte, reduceDIte, reduceCtorEq]; rfl) ?_ ?_ -- R13
        · trivial
        refine k_block ?_
        show ∃ z, _
        simp only [ml0, ml1, Nat.reduceLT, Nat.reduceEqDiff, Nat.reduceAdd, Nat.reduceMul, Nat.reduceSub, Nat.reduceLeDiff, Nat.reduceBEq, Nat.reduceBNe, reduceIte, reduceDIte, reduceCtorEq]
        first | (rw [hb0]; exact chk_zero.symm) | exact (chk_first hb0 ((first_iff _).1 hb1)).symm | exact (chk_bad hb0 (first_not hb1) (by rw [bytes_len] at hb2; omega) (byte_bad hb3)).symm | (rw [bytes_len] at hb2; rw [chk_good hb0 (first_not hb1) (by rw [List.take_of_length_le (by omega)] at g2; exact g2)]; first | rw [if_pos (by omega)] | rw [if_neg (by omega)])
      · intro hb1
        try simp only [decide_eq_true_eq, decide_eq_false_iff_not, beq_eq_false_iff_ne, bne_eq_false_iff_eq, Bool.not_eq_false', Bool.and_eq_false_imp] at hb1
        refine r_seq ?_
        refine r_seq ?_
        refine r_region hG (by simp only [hT, tab20, cTrimPre, mx0, mx1, mx2, mx3, mx4, mx5, effOp, endCall, callOp, appendOp, sliceLV, Ty.fieldTy, Ty.fieldOf, Nat.reduceLT, Nat.reduceEqDiff, Nat.reduceAdd, Nat.reduceMul, Nat.reduceSub, Nat.reduceLeDiff, Nat.reduceBEq, Nat.reduceBNe, reduceIte, reduceDIte, reduceCtorEq]; rfl) ?_ ?_ -- R3
        · try simp only [and_true, true_and]
          have := trim_len s [45]
          have hC : s.length < 70368744177664 := hC
          omega
        refine k_seq ?_
        refine j_block ?_
        refine j_loop (fun (z : Nat) => (⟨[(0, .l (.z .str s)), (3, .l (.z .str (trimPre s [45]))), (4, .l (.z (.int .i64) 0)), (10, .l (.z (.slice (.int .u8)) (bytesOf (trimPre s [45])))), (11, .l (.z (.int .i64) ((bytesOf (trimPre s [45])).length : Int))), (12, .l (.z (.int .i64) (z : Int)))], []⟩ : AState)) (fun z => z ≤ (trimPre s [45]).length ∧ (List.take z (trimPre s [45])).all isDig = true) (fun z => (trimPre s [45]).length - z) 0 ?_ ?_ ?_
        · simp only [ml0, ml1, Nat.reduceLT, Nat.reduceEqDiff, Nat.reduceAdd, Nat.reduceMul, Nat.reduceSub, Nat.reduceLeDiff, Nat.reduceBEq, Nat.reduceBNe, reduceIte, reduceDIte, reduceCtorEq]
          rfl
        · exact ⟨Nat.zero_le _, rfl⟩
        · rintro k ⟨g1, g2⟩
          try dsimp only at g1 g2
          have hS : (trimPre s [45]).length < 70368744177664 := Nat.lt_of_le_of_lt (trim_len s _) hC
          refine r_seq ?_
          refine r_region hG (by simp only [hT, tab20, cTrimPre, mx0, mx1, mx2, mx3, mx4, mx5, effOp, endCall, callOp, appendOp, sliceLV, Ty.fieldTy, Ty.fieldOf, Nat.reduceLT, Nat.reduceEqDiff, Nat.reduceAdd, Nat.reduceMul, Nat.reduceSub, Nat.reduceLeDiff, Nat.reduceBEq, Nat.reduceBNe, reduceIte, reduceDIte, reduceCtorEq]; rfl) ?_ ?_ -- R4
          · trivial
          refine k_seq ?_
          refine r_seq ?_
          refine r_cond (by simp only [hT, tab20, mx0, mx1, mx2, mx3, mx4, mx5, effOp, endCall, callOp, appendOp, sliceLV, Ty.fieldTy, Ty.fieldOf, Nat.reduceLT, Nat.reduceEqDiff, Nat.reduceAdd, Nat.reduceMul, Nat.reduceSub, Nat.reduceLeDiff, Nat.reduceBEq, Nat.reduceBNe, reduceIte, reduceDIte, reduceCtorEq]; rfl) ?_ ?_
          · intro hb2
            try simp only [decide_eq_true_eq, decide_eq_false_iff_not, beq_iff_eq, bne_iff_ne, Bool.not_eq_true', Bool.and_eq_true] at hb2
            refine r_skip ?_
            refine k_seq ?_
            refine r_seq ?_
            refine j_block ?_
            refine r_seq ?_
            refine r_region hG (by simp only [hT, tab20, cTrimPre, mx0, mx1, mx2, mx3, mx4, mx5, effOp, endCall, callOp, appendOp, sliceLV, Ty.fieldTy, Ty.fieldOf, Nat.reduceLT, Nat.reduceEqDiff, Nat.reduceAdd, Nat.reduceMul, Nat.reduceSub, Nat.reduceLeDiff, Nat.reduceBEq, Nat.reduceBNe, reduceIte, reduceDIte, reduceCtorEq]; rfl) ?_ ?_ -- R5
            · try simp only [and_true, true_and]
              exact ⟨by omega, hb2⟩
            refine k_seq ?_
            refine r_seq ?_
            refine r_region hG (by simp only [hT, tab20, cTrimPre, mx0, mx1, mx2, mx3, mx4, mx5, effOp, endCall, callOp, appendOp, sliceLV, Ty.fieldTy, Ty.fieldOf, Nat.reduceLT, Nat.reduceEqDiff, Nat.reduceAdd, Nat.reduceMul, Nat.reduceSub, Nat.reduceLeDiff, Nat.reduceBEq, Nat.reduceBNe, reduceIte, reduceDIte, reduceCtorEq]; rfl) ?_ ?_ -- R6
            · try simp only [and_true, true_and]
              exact ⟨fun h => h, fun h => by rw [h]; rfl⟩
            refine k_seq ?_
            refine r_cond (by simp only [hT, tab20, mx0, mx1, mx2, mx3, mx4, mx5, effOp, endCall, callOp, appendOp, sliceLV, Ty.fieldTy, Ty.fieldOf, Nat.reduceLT, Nat.reduceEqDiff, Nat.reduceAdd, Nat.reduceMul, Nat.reduceSub, Nat.reduceLeDiff, Nat.reduceBEq, Nat.reduceBNe, reduceIte, reduceDIte, reduceCtorEq]; rfl) ?_ ?_
            · intro hb3
              try simp only [decide_eq_true_eq, decide_eq_false_iff_not, beq_iff_eq, bne_iff_ne, Bool.not_eq_true', Bool.and_eq_true] at hb3
              refine r_seq ?_
              refine r_region hG (by simp only [hT, tab20, cTrimPre, mx0, mx1, mx2, mx3, mx4, mx5, effOp, endCall, callOp, appendOp, sliceLV, Ty.fieldTy, Ty.fieldOf, Nat.reduceLT, Nat.reduceEqDiff, Nat.reduceAdd, Nat.reduceMul, Nat.reduceSub, Nat.reduceLeDiff, Nat.reduceBEq, Nat.reduceBNe, reduceIte, reduceDIte, reduceCtorEq]; rfl) ?_ ?_ -- R7
              · trivial
              refine k_seq ?_
              refine r_exit ?_
              refine k_block_out rfl ?_
              refine k_seq_exit ?_
              refine k_round_exit ?_
              refine k_block_out rfl ?_
              refine k_seq_exit ?_
              refine k_block_exit ?_
              show ∃ z, _
              simp only [ml0, ml1, Nat.reduceLT, Nat.reduceEqDiff, Nat.reduceAdd, Nat.reduceMul, Nat.reduceSub, Nat.reduceLeDiff, Nat.reduceBEq, Nat.reduceBNe, reduceIte, reduceDIte, reduceCtorEq]
              first | (rw [hb0]; exact chk_zero.symm) | exact (chk_first hb0 ((first_iff _).1 hb1)).symm | exact (chk_bad hb0 (first_not hb1) (by rw [bytes_len] at hb2; omega) (byte_bad hb3)).symm | (rw [bytes_len] at hb2; rw [chk_good hb0 (first_not hb1) (by rw [List.take_of_length_le (by omega)] at g2; exact g2)]; first | rw [if_pos (by omega)] | rw [if_neg (by omega)])
            · intro hb3
              try simp only [decide_eq_true_eq, decide_eq_false_iff_not, beq_eq_false_iff_ne, bne_eq_false_iff_eq, Bool.not_eq_false', Bool.and_eq_false_imp] at hb3
              refine r_skip ?_
              refine k_block ?_
              refine k_seq ?_
              refine r_region hG (by simp only [hT, tab20, cTrimPre, mx0, mx1, mx2, mx3, mx4, mx5, effOp, endCall, callOp, appendOp, sliceLV, Ty.fieldTy, Ty.fieldOf, Nat.reduceLT, Nat.reduceEqDiff, Nat.reduceAdd, Nat.reduceMul, Nat.reduceSub, Nat.reduceLeDiff, Nat.reduceBEq, Nat.reduceBNe, reduceIte, reduceDIte, reduceCtorEq]; rfl) ?_ ?_ -- R8
              · trivial
              show ∃ z, _
              simp only [ml0, ml1, Nat.reduceLT, Nat.reduceEqDiff, Nat.reduceAdd, Nat.reduceMul, Nat.reduceSub, Nat.reduceLeDiff, Nat.reduceBEq, Nat.reduceBNe, reduceIte, reduceDIte, reduceCtorEq]
              rw [bytes_len] at hb2
              exact ⟨k + 1, by rw [wi (by omega) (by omega)]; simp, by omega, all_take_succ g2 (byte_good hb3), by omega⟩
          · intro hb2
            try simp only [decide_eq_true_eq, decide_eq_false_iff_not, beq_eq_false_iff_ne, bne_eq_false_iff_eq, Bool.not_eq_false', Bool.and_eq_false_imp] at hb2
            refine r_exit ?_
            refine k_seq_exit ?_
            refine k_round_exit ?_
            refine k_block_exit ?_
            refine k_seq ?_
            refine r_seq ?_
            refine r_region hG (by simp only [hT, tab20, cTrimPre, mx0, mx1, mx2, mx3, mx4, mx5, effOp, endCall, callOp, appendOp, sliceLV, Ty.fieldTy, Ty.fieldOf, Nat.reduceLT, Nat.reduceEqDiff, Nat.reduceAdd, Nat.reduceMul, Nat.reduceSub, Nat.reduceLeDiff, Nat.reduceBEq, Nat.reduceBNe, reduceIte, reduceDIte, reduceCtorEq]; rfl) ?_ ?_ -- R9
            · trivial
            refine k_seq ?_
            refine r_cond (by simp only [hT, tab20, mx0, mx1, mx2, mx3, mx4, mx5, effOp, endCall, callOp, appendOp, sliceLV, Ty.fieldTy, Ty.fieldOf, Nat.reduceLT, Nat.reduceEqDiff, Nat.reduceAdd, Nat.reduceMul, Nat.reduceSub, Nat.reduceLeDiff, Nat.reduceBEq, Nat.reduceBNe, reduceIte, reduceDIte, reduceCtorEq]; rfl) ?_ ?_
            · intro hb4
              try simp only [decide_eq_true_eq, decide_eq_false_iff_not, beq_iff_eq, bne_iff_ne, Bool.not_eq_true', Bool.and_eq_true] at hb4
              refine r_region hG (by simp only [hT, tab20, cTrimPre, mx0, mx1, mx2, mx3, mx4, mx5, effOp, endCall, callOp, appendOp, sliceLV, Ty.fieldTy, Ty.fieldOf, Nat.reduceLT, Nat.reduceEqDiff, Nat.reduceAdd, Nat.reduceMul, Nat.reduceSub, Nat.reduceLeDiff, Nat.reduceBEq, Nat.reduceBNe, reduceIte, reduceDIte, reduceCtorEq]; rfl) ?_ ?_ -- R10
              · trivial
              refine k_block ?_
              show ∃ z, _
              simp only [ml0, ml1, Nat.reduceLT, Nat.reduceEqDiff, Nat.reduceAdd, Nat.reduceMul, Nat.reduceSub, Nat.reduceLeDiff, Nat.reduceBEq, Nat.reduceBNe, reduceIte, reduceDIte, reduceCtorEq]
              first | (rw [hb0]; exact chk_zero.symm) | exact (chk_first hb0 ((first_iff _).1 hb1)).symm | exact (chk_bad hb0 (first_not hb1) (by rw [bytes_len] at hb2; omega) (byte_bad hb3)).symm | (rw [bytes_len] at hb2; rw [chk_good hb0 (first_not hb1) (by rw [List.take_of_length_le (by omega)] at g2; exact g2)]; first | rw [if_pos (by omega)] | rw [if_neg (by omega)])
            · intro hb4
              try simp only [decide_eq_true_eq, decide_eq_false_iff_not, beq_eq_false_iff_ne, bne_eq_false_iff_eq, Bool.not_eq_false', Bool.and_eq_false_imp] at hb4
              refine r_skip ?_
              refine k_block ?_
              show ∃ z, _
              simp only [ml0, ml1, Nat.reduceLT, Nat.reduceEqDiff, Nat.reduceAdd, Nat.reduceMul, Nat.reduceSub, Nat.reduceLeDiff, Nat.reduceBEq, Nat.reduceBNe, reduceIte, reduceDIte, reduceCtorEq]
              first | (rw [hb0]; exact chk_zero.symm) | exact (chk_first hb0 ((first_iff _).1 hb1)).symm | exact (chk_bad hb0 (first_not hb1) (by rw [bytes_len] at hb2; omega) (byte_bad hb3)).symm | (rw [bytes_len] at hb2; rw [chk_good hb0 (first_not hb1) (by rw [List.take_of_length_le (by omega)] at g2; exact g2)]; first | rw [if_pos (by omega)] | rw [if_neg (by omega)])
  rintro z hz
  try dsimp only at hz
  refine r_seq ?_
  refine r_region hG (by simp only [hT, tab20, cTrimPre, mx0, mx1, mx2, mx3, mx4, mx5, effOp, endCall, callOp, appendOp, sliceLV, Ty.fieldTy, Ty.fieldOf, Nat.reduceLT, Nat.reduceEqDiff, Nat.reduceAdd, Nat.reduceMul, Nat.reduceSub, Nat.reduceLeDiff, Nat.reduceBEq, Nat.reduceBNe, reduceIte, reduceDIte, reduceCtorEq]; rfl) ?_ ?_ -- R14
  · trivial
  refine k_seq ?_
  refine r_ret ?_
  refine k_scope_ret ?_
  refine ⟨[], ?_⟩
  simp only [hT, tab20, mr0, mr1, mr2, Nat.reduceLT, Nat.reduceEqDiff, Nat.reduceAdd, Nat.reduceMul, Nat.reduceSub, Nat.reduceLeDiff, Nat.reduceBEq, Nat.reduceBNe, reduceIte, reduceDIte, reduceCtorEq]
  exact hz

end Go.Proofs.YtkgbdpmhdplddaaDoor
end

section
/- The functions of the package exact, one after the other: each meets its contract. -/
set_option linter.unusedSimpArgs false
set_option linter.unusedVariables false
set_option maxRecDepth 100000
namespace Go.Proofs.YtkgbdpmhdplddaaDoor
open Go Go.Cm Go.Proofs

def tab30 (B : Base) : Tab := { types := [(3, (.int .i64)), (9, .str), (27, (.int .i64)), (56, (.slice (.st (.pair .bool (.slice (.int .u32)))))), (85, (.slice .str))], elems := [(56, 55)], cons := [(20, cCheck), (54, cRead)], hint := [], N := 26, base := B }
theorem good30 {B : Base} (hB : Tabs B) : MGood Tryd.prog (tab30 B) := ⟨⟨types_cons ty3 (types_cons ty9 (types_cons ty27 (types_cons ty56 (types_cons ty85 (types_nil))))), elems_cons (by kernel_rfl) (elems_nil), by simp only [tab30, ioB]; omega⟩, cons_ok (cals_cons (cal_ok Tryd.func20 (by kernel_rfl) rfl (valid20 hB)) (cals_cons (cal_ok Tryd.func54 (by kernel_rfl) rfl (valid54 hB)) (cals_nil))), by kernel_rfl⟩
def cReads : Con := fun l os => match l, os with
  | [.z (.slice .str) l], [] => some (Shorts l, [.z (.slice (.st (.pair .bool (.slice (.int .u32))))) (readAll l), .z (.int .i64) (chkAll l)], [])
  | _, _ => none

theorem valid30 {B : Base} (hB : Tabs B) : Valid B Tryd.prog 30 cReads := by
  refine valid_of_J (T := tab30 B) (good30 hB).tab Tryd.func30 rfl rfl rfl ?_
  intro args os C rs os' hc hC
  unfold cReads at hc
  split at hc
  case h_2 => cases hc
  rename_i l
  cases hc
  refine ⟨by simp only [List.length_cons, List.length_nil, tab30]; omega, rfl, ?_⟩
  intro X hP hT hr
  have hG : MGood X.P X.T := by rw [hP, hT]; exact good30 hB
  simp only [Tryd.f30, argEnv, ioList, ioB]
  refine r_seq ?_
  refine r_region hG (by simp only [hT, tab30, cCheck, cRead, mx0, mx1, mx2, mx3, mx4, mx5, effOp, endCall, callOp, appendOp, sliceLV, Ty.fieldTy, Ty.fieldOf, Nat.reduceLT, Nat.reduceEqDiff, Nat.reduceAdd, Nat.reduceMul, Nat.reduceSub, Nat.reduceLeDiff, Nat.reduceBEq, Nat.reduceBNe, reduceIte, reduceDIte, reduceCtorEq]; rfl) ?_ ?_ -- R0
  · trivial
  refine k_seq ?_
  refine r_seq ?_
  refine r_region hG (by simp only [hT, tab30, cCheck, cRead, mx0, mx1, mx2, mx3, mx4, mx5, effOp, endCall, callOp, appendOp, sliceLV, Ty.fieldTy, Ty.fieldOf, Nat.reduceLT, Nat.reduceEqDiff, Nat.reduceAdd, Nat.reduceMul, Nat.reduceSub, Nat.reduceLeDiff, Nat.reduceBEq, Nat.reduceBNe, reduceIte, reduceDIte, reduceCtorEq]; rfl) ?_ ?_ -- R1
  · trivial
  refine k_seq ?_
  refine r_seq ?_
  refine r_seq ?_
  refine r_region hG (by simp only [hT, tab30, cCheck, cRead, mx0, mx1, mx2, mx3, mx4, mx5, effOp, endCall, callOp, appendOp, sliceLV, Ty.fieldTy, Ty.fieldOf, Nat.reduceLT, Nat.reduceEqDiff, Nat.reduceAdd, Nat.reduceMul, Nat.reduceSub, Nat.reduceLeDiff, Nat.reduceBEq, Nat.reduceBNe, reduceIte, reduceDIte, reduceCtorEq]; rfl) ?_ ?_ -- R2
  · trivial
  refine k_seq ?_
  refine j_block ?_
  refine j_loop (fun (z : Nat × List (Bool × List Int)) => (⟨[(4, .l (.ownS 23)), (8, .l (.z (.slice .str) l)), (9, .l (.z (.int .i64) (List.length l : Int))), (10, .l (.z (.int .i64) (z.1 : Int)))], [(23, .arr (.st (.pair .bool (.slice (.int .u32)))) 55 z.2)]⟩ : AState)) (fun z => ReadsPhi l z.1 z.2) (fun z => List.length l - z.1) (0, []) ?_ ?_ ?_
  · simp only [ml0, ml1, Nat.reduceLT, Nat.reduceEqDiff, Nat.reduceAdd, Nat.reduceMul, Nat.reduceSub, Nat.reduceLeDiff, Nat.reduceBEq, Nat.reduceBNe, reduceIte, reduceDIte, reduceCtorEq]
    exact ⟨rfl, by unfold ioB; omega⟩
  · exact reads_start
  · rintro ⟨k, out⟩ hz
    try dsimp only at hz
    refine r_seq ?_
    refine r_region hG (by simp only [hT, tab30, cCheck, cRead, mx0, mx1, mx2, mx3, mx4, mx5, effOp, endCall, callOp, appendOp, sliceLV, Ty.fieldTy, Ty.fieldOf, Nat.reduceLT, Nat.reduceEqDiff, Nat.reduceAdd, Nat.reduceMul, Nat.reduceSub, Nat.reduceLeDiff, Nat.reduceBEq, Nat.reduceBNe, reduceIte, reduceDIte, reduceCtorEq]; rfl) ?_ ?_ -- R3
    · trivial
    refine k_seq ?_
    refine r_seq ?_
    refine r_cond (by simp only [hT, tab30, mx0, mx1, mx2, mx3, mx4, mx5, effOp, endCall, callOp, appendOp, sliceLV, Ty.fieldTy, Ty.fieldOf, Nat.reduceLT, Nat.reduceEqDiff, Nat.reduceAdd, Nat.reduceMul, Nat.reduceSub, Nat.reduceLeDiff, Nat.reduceBEq, Nat.reduceBNe, reduceIte, reduceDIte, reduceCtorEq]; rfl) ?_ ?_
    · intro hb0
      try simp only [decide_eq_true_eq, decide_eq_false_iff_not, beq_iff_eq, bne_iff_ne, Bool.not_eq_true', Bool.and_eq_true] at hb0
      refine r_skip ?_
      refine k_seq ?_
      refine r_seq ?_
      refine j_block ?_
      refine r_seq ?_
      refine r_region hG (by simp only [hT, tab30, cCheck, cRead, mx0, mx1, mx2, mx3, mx4, mx5, effOp, endCall, callOp, appendOp, sliceLV, Ty.fieldTy, Ty.fieldOf, Nat.reduceLT, Nat.reduceEqDiff, Nat.reduceAdd, Nat.reduceMul, Nat.reduceSub, Nat.reduceLeDiff, Nat.reduceBEq, Nat.reduceBNe, reduceIte, reduceDIte, reduceCtorEq]; rfl) ?_ ?_ -- R4
      · try simp only [and_true, true_and]
        exact ⟨by omega, hb0⟩
      refine k_seq ?_
      refine r_seq ?_
      refine r_seq ?_
      refine r_region hG (by simp only [hT, tab30, cCheck, cRead, mx0, mx1, mx2, mx3, mx4, mx5, effOp, endCall, callOp, appendOp, sliceLV, Ty.fieldTy, Ty.fieldOf, Nat.reduceLT, Nat.reduceEqDiff, Nat.reduceAdd, Nat.reduceMul, Nat.reduceSub, Nat.reduceLeDiff, Nat.reduceBEq, Nat.reduceBNe, reduceIte, reduceDIte, reduceCtorEq]; rfl) ?_ ?_ -- R5
      · try simp only [and_true, true_and]
        exact reads_short hC hb0
      refine k_seq ?_
      refine r_seq ?_
      refine r_region hG (by simp only [hT, tab30, cCheck, cRead, mx0, mx1, mx2, mx3, mx4, mx5, effOp, endCall, callOp, appendOp, sliceLV, Ty.fieldTy, Ty.fieldOf, Nat.reduceLT, Nat.reduceEqDiff, Nat.reduceAdd, Nat.reduceMul, Nat.reduceSub, Nat.reduceLeDiff, Nat.reduceBEq, Nat.reduceBNe, reduceIte, reduceDIte, reduceCtorEq]; rfl) ?_ ?_ -- R6
      · trivial
      refine k_seq ?_
      refine r_cond (by simp only [hT, tab30, mx0, mx1, mx2, mx3, mx4, mx5, effOp, endCall, callOp, appendOp, sliceLV, Ty.fieldTy, Ty.fieldOf, Nat.reduceLT, Nat.reduceEqDiff, Nat.reduceAdd, Nat.reduceMul, Nat.reduceSub, Nat.reduceLeDiff, Nat.reduceBEq, Nat.reduceBNe, reduceIte, reduceDIte, reduceCtorEq]; rfl) ?_ ?_
      · intro hb1
        try simp only [decide_eq_true_eq, decide_eq_false_iff_not, beq_iff_eq, bne_iff_ne, Bool.not_eq_true', Bool.and_eq_true] at hb1
        refine r_seq ?_
        refine r_region hG (by simp only [hT, tab30, cCheck, cRead, mx0, mx1, mx2, mx3, mx4, mx5, effOp, endCall, callOp, appendOp, sliceLV, Ty.fieldTy, Ty.fieldOf, Nat.reduceLT, Nat.reduceEqDiff, Nat.reduceAdd, Nat.reduceMul, Nat.reduceSub, Nat.reduceLeDiff, Nat.reduceBEq, Nat.reduceBNe, reduceIte, reduceDIte, reduceCtorEq]; rfl) ?_ ?_ -- R7
        · trivial
        refine k_seq ?_
        refine r_ret ?_
        refine k_seq_ret ?_
        refine k_block_ret ?_
        refine k_seq_ret ?_
        refine k_round_ret ?_
        refine k_block_ret ?_
        refine k_seq_ret ?_
        refine ⟨[23], ?_⟩
        simp only [hT, tab30, mr0, mr1, mr2, Nat.reduceLT, Nat.reduceEqDiff, Nat.reduceAdd, Nat.reduceMul, Nat.reduceSub, Nat.reduceLeDiff, Nat.reduceBEq, Nat.reduceBNe, reduceIte, reduceDIte, reduceCtorEq]
        exact reads_bad hz hb0 hb1
      · intro hb1
        try simp only [decide_eq_true_eq, decide_eq_false_iff_not, beq_eq_false_iff_ne, bne_eq_false_iff_eq, Bool.not_eq_false', Bool.and_eq_false_imp] at hb1
        refine r_skip ?_
        refine k_seq ?_
        refine r_region hG (by simp only [hT, tab30, cCheck, cRead, mx0, mx1, mx2, mx3, mx4, mx5, effOp, endCall, callOp, appendOp, sliceLV, Ty.fieldTy, Ty.fieldOf, Nat.reduceLT, Nat.reduceEqDiff, Nat.reduceAdd, Nat.reduceMul, Nat.reduceSub, Nat.reduceLeDiff, Nat.reduceBEq, Nat.reduceBNe, reduceIte, reduceDIte, reduceCtorEq]; rfl) ?_ ?_ -- R8
        · try simp only [and_true, true_and]
          have hl := congrArg List.length hz.2.2
          simp only [List.length_map, List.length_take] at hl
          have hc : List.length l < 1000000000000 := hC.1
          exact ⟨hb1, by unfold Cm.Roomy; omega⟩
        refine k_block ?_
        refine k_seq ?_
        refine r_region hG (by simp only [hT, tab30, cCheck, cRead, mx0, mx1, mx2, mx3, mx4, mx5, effOp, endCall, callOp, appendOp, sliceLV, Ty.fieldTy, Ty.fieldOf, Nat.reduceLT, Nat.reduceEqDiff, Nat.reduceAdd, Nat.reduceMul, Nat.reduceSub, Nat.reduceLeDiff, Nat.reduceBEq, Nat.reduceBNe, reduceIte, reduceDIte, reduceCtorEq]; rfl) ?_ ?_ -- R9
        · trivial
        show ∃ z, _
        simp only [ml0, ml1, Nat.reduceLT, Nat.reduceEqDiff, Nat.reduceAdd, Nat.reduceMul, Nat.reduceSub, Nat.reduceLeDiff, Nat.reduceBEq, Nat.reduceBNe, reduceIte, reduceDIte, reduceCtorEq]
        exact reads_next hC hz hb0 hb1
    · intro hb0
      try simp only [decide_eq_true_eq, decide_eq_false_iff_not, beq_eq_false_iff_ne, bne_eq_false_iff_eq, Bool.not_eq_false', Bool.and_eq_false_imp] at hb0
      refine r_exit ?_
      refine k_seq_exit ?_
      refine k_round_exit ?_
      refine k_block_exit ?_
      refine k_seq ?_
      refine r_seq ?_
      refine r_region hG (by simp only [hT, tab30, cCheck, cRead, mx0, mx1, mx2, mx3, mx4, mx5, effOp, endCall, callOp, appendOp, sliceLV, Ty.fieldTy, Ty.fieldOf, Nat.reduceLT, Nat.reduceEqDiff, Nat.reduceAdd, Nat.reduceMul, Nat.reduceSub, Nat.reduceLeDiff, Nat.reduceBEq, Nat.reduceBNe, reduceIte, reduceDIte, reduceCtorEq]; rfl) ?_ ?_ -- R10
      · trivial
      refine k_seq ?_
      refine r_ret ?_
      refine ⟨[23], ?_⟩
      simp only [hT, tab30, mr0, mr1, mr2, Nat.reduceLT, Nat.reduceEqDiff, Nat.reduceAdd, Nat.reduceMul, Nat.reduceSub, Nat.reduceLeDiff, Nat.reduceBEq, Nat.reduceBNe, reduceIte, reduceDIte, reduceCtorEq]
      exact reads_end hz hb0

end Go.Proofs.YtkgbdpmhdplddaaDoor
end

section
/- The functions of the package exact, one after the other: each meets its contract. -/
set_option linter.unusedSimpArgs false
set_option linter.unusedVariables false
set_option maxRecDepth 100000
namespace Go.Proofs.YtkgbdpmhdplddaaDoor
open Go Go.Cm Go.Proofs

def tab19 (B : Base) : Tab := { types := [(27, (.int .i64)), (55, (.st (.pair .bool (.slice (.int .u32))))), (56, (.slice (.st (.pair .bool (.slice (.int .u32)))))), (85, (.slice .str))], elems := [(85, 9)], cons := [(30, cReads), (38, cInt)], hint := [], N := 27, base := B }
theorem good19 {B : Base} (hB : Tabs B) : MGood Tryd.prog (tab19 B) := ⟨⟨types_cons ty27 (types_cons ty55 (types_cons ty56 (types_cons ty85 (types_nil)))), elems_cons (by kernel_rfl) (elems_nil), by simp only [tab19, ioB]; omega⟩, cons_ok (cals_cons (cal_ok Tryd.func30 (by kernel_rfl) rfl (valid30 hB)) (cals_cons (cal_ok Tryd.func38 (by kernel_rfl) rfl (valid38 hB)) (cals_nil))), by kernel_rfl⟩
def cIntT : Con := fun l os => match l, os with
  | [.z .str s], [] => some (Short s, [.z (.int .i64) (intV s), .z (.int .i64) (intE s)], [])
  | _, _ => none

theorem valid19 {B : Base} (hB : Tabs B) : Valid B Tryd.prog 19 cIntT := by
  refine valid_of_J (T := tab19 B) (good19 hB).tab Tryd.func19 rfl rfl rfl ?_
  intro args os C rs os' hc hC
  unfold cIntT at hc
  split at hc
  case h_2 => cases hc
  rename_i s
  cases hc
  refine ⟨by simp only [List.length_cons, List.length_nil, tab19]; omega, rfl, ?_⟩
  intro X hP hT hr
  have hG : MGood X.P X.T := by rw [hP, hT]; exact good19 hB
  simp only [Tryd.f19, argEnv, ioList, ioB]
  refine r_seq ?_
  refine r_region hG (by simp only [hT, tab19, cReads, cInt, mx0, mx1, mx2, mx3, mx4, mx5, effOp, endCall, callOp, appendOp, sliceLV, Ty.fieldTy, Ty.fieldOf, Nat.reduceLT, Nat.reduceEqDiff, Nat.reduceAdd, Nat.reduceMul, Nat.reduceSub, Nat.reduceLeDiff, Nat.reduceBEq, Nat.reduceBNe, reduceIte, reduceDIte, reduceCtorEq]; rfl) ?_ ?_ -- R0
  · trivial
  refine k_seq ?_
  refine r_seq ?_
  refine r_region hG (by simp only [hT, tab19, cReads, cInt, mx0, mx1, mx2, mx3, mx4, mx5, effOp, endCall, callOp, appendOp, sliceLV, Ty.fieldTy, Ty.fieldOf, Nat.reduceLT, Nat.reduceEqDiff, Nat.reduceAdd, Nat.reduceMul, Nat.reduceSub, Nat.reduceLeDiff, Nat.reduceBEq, Nat.reduceBNe, reduceIte, reduceDIte, reduceCtorEq]; rfl) ?_ ?_ -- R1
  · try simp only [and_true, true_and]
    exact shorts1 hC
  refine k_seq ?_
  refine r_seq ?_
  refine r_seq ?_
  refine r_region hG (by simp only [hT, tab19, cReads, cInt, mx0, mx1, mx2, mx3, mx4, mx5, effOp, endCall, callOp, appendOp, sliceLV, Ty.fieldTy, Ty.fieldOf, Nat.reduceLT, Nat.reduceEqDiff, Nat.reduceAdd, Nat.reduceMul, Nat.reduceSub, Nat.reduceLeDiff, Nat.reduceBEq, Nat.reduceBNe, reduceIte, reduceDIte, reduceCtorEq]; rfl) ?_ ?_ -- R2
  · trivial
  refine k_seq ?_
  refine r_cond (by simp only [hT, tab19, mx0, mx1, mx2, mx3, mx4, mx5, effOp, endCall, callOp, appendOp, sliceLV, Ty.fieldTy, Ty.fieldOf, Nat.reduceLT, Nat.reduceEqDiff, Nat.reduceAdd, Nat.reduceMul, Nat.reduceSub, Nat.reduceLeDiff, Nat.reduceBEq, Nat.reduceBNe, reduceIte, reduceDIte, reduceCtorEq]; rfl) ?_ ?_
  · intro hb0
    try simp only [decide_eq_true_eq, decide_eq_false_iff_not, beq_iff_eq, bne_iff_ne, Bool.not_eq_true', Bool.and_eq_true] at hb0
    refine r_seq ?_
    refine r_region hG (by simp only [hT, tab19, cReads, cInt, mx0, mx1, mx2, mx3, mx4, mx5, effOp, endCall, callOp, appendOp, sliceLV, Ty.fieldTy, Ty.fieldOf, Nat.reduceLT, Nat.reduceEqDiff, Nat.reduceAdd, Nat.reduceMul, Nat.reduceSub, Nat.reduceLeDiff, Nat.reduceBEq, Nat.reduceBNe, reduceIte, reduceDIte, reduceCtorEq]; rfl) ?_ ?_ -- R3
    · trivial
    refine k_seq ?_
    refine r_ret ?_
    refine k_seq_ret ?_
    refine ⟨[], ?_⟩
    simp only [hT, tab19, mr0, mr1, mr2, Nat.reduceLT, Nat.reduceEqDiff, Nat.reduceAdd, Nat.reduceMul, Nat.reduceSub, Nat.reduceLeDiff, Nat.reduceBEq, Nat.reduceBNe, reduceIte, reduceDIte, reduceCtorEq]
    exact int_bad hb0
  · intro hb0
    try simp only [decide_eq_true_eq, decide_eq_false_iff_not, beq_eq_false_iff_ne, bne_eq_false_iff_eq, Bool.not_eq_false', Bool.and_eq_false_imp] at hb0
    refine r_skip ?_
    refine k_seq ?_
    refine r_seq ?_
    refine r_region hG (by simp only [hT, tab19, cReads, cInt, mx0, mx1, mx2, mx3, mx4, mx5, effOp, endCall, callOp, appendOp, sliceLV, Ty.fieldTy, Ty.fieldOf, Nat.reduceLT, Nat.reduceEqDiff, Nat.reduceAdd, Nat.reduceMul, Nat.reduceSub, Nat.reduceLeDiff, Nat.reduceBEq, Nat.reduceBNe, reduceIte, reduceDIte, reduceCtorEq]; rfl) ?_ ?_ -- R4
    · try simp only [and_true, true_and]
      obtain ⟨r1, r2, r3, r4⟩ := read1 hb0
      exact ⟨⟨by omega, r2⟩, by rw [r3]; exact enc_ok _, by rw [r3]; unfold CAP; omega⟩
    refine k_seq ?_
    refine r_seq ?_
    refine r_seq ?_
    refine r_region hG (by simp only [hT, tab19, cReads, cInt, mx0, mx1, mx2, mx3, mx4, mx5, effOp, endCall, callOp, appendOp, sliceLV, Ty.fieldTy, Ty.fieldOf, Nat.reduceLT, Nat.reduceEqDiff, Nat.reduceAdd, Nat.reduceMul, Nat.reduceSub, Nat.reduceLeDiff, Nat.reduceBEq, Nat.reduceBNe, reduceIte, reduceDIte, reduceCtorEq]; rfl) ?_ ?_ -- R5
    · trivial
    refine k_seq ?_
    refine r_cond (by simp only [hT, tab19, mx0, mx1, mx2, mx3, mx4, mx5, effOp, endCall, callOp, appendOp, sliceLV, Ty.fieldTy, Ty.fieldOf, Nat.reduceLT, Nat.reduceEqDiff, Nat.reduceAdd, Nat.reduceMul, Nat.reduceSub, Nat.reduceLeDiff, Nat.reduceBEq, Nat.reduceBNe, reduceIte, reduceDIte, reduceCtorEq]; rfl) ?_ ?_
    · intro hb1
      try simp only [decide_eq_true_eq, decide_eq_false_iff_not, beq_iff_eq, bne_iff_ne, Bool.not_eq_true', Bool.and_eq_true] at hb1
      refine r_seq ?_
      refine r_region hG (by simp only [hT, tab19, cReads, cInt, mx0, mx1, mx2, mx3, mx4, mx5, effOp, endCall, callOp, appendOp, sliceLV, Ty.fieldTy, Ty.fieldOf, Nat.reduceLT, Nat.reduceEqDiff, Nat.reduceAdd, Nat.reduceMul, Nat.reduceSub, Nat.reduceLeDiff, Nat.reduceBEq, Nat.reduceBNe, reduceIte, reduceDIte, reduceCtorEq]; rfl) ?_ ?_ -- R6
      · trivial
      refine k_seq ?_
      refine r_ret ?_
      refine k_seq_ret ?_
      refine ⟨[], ?_⟩
      simp only [hT, tab19, mr0, mr1, mr2, Nat.reduceLT, Nat.reduceEqDiff, Nat.reduceAdd, Nat.reduceMul, Nat.reduceSub, Nat.reduceLeDiff, Nat.reduceBEq, Nat.reduceBNe, reduceIte, reduceDIte, reduceCtorEq]
      exact int_big hb0 hb1
    · intro hb1
      try simp only [decide_eq_true_eq, decide_eq_false_iff_not, beq_eq_false_iff_ne, bne_eq_false_iff_eq, Bool.not_eq_false', Bool.and_eq_false_imp] at hb1
      refine r_skip ?_
      refine k_seq ?_
      refine r_seq ?_
      refine r_region hG (by simp only [hT, tab19, cReads, cInt, mx0, mx1, mx2, mx3, mx4, mx5, effOp, endCall, callOp, appendOp, sliceLV, Ty.fieldTy, Ty.fieldOf, Nat.reduceLT, Nat.reduceEqDiff, Nat.reduceAdd, Nat.reduceMul, Nat.reduceSub, Nat.reduceLeDiff, Nat.reduceBEq, Nat.reduceBNe, reduceIte, reduceDIte, reduceCtorEq]; rfl) ?_ ?_ -- R7
      · trivial
      refine k_seq ?_
      refine r_ret ?_
      refine ⟨[], ?_⟩
      simp only [hT, tab19, mr0, mr1, mr2, Nat.reduceLT, Nat.reduceEqDiff, Nat.reduceAdd, Nat.reduceMul, Nat.reduceSub, Nat.reduceLeDiff, Nat.reduceBEq, Nat.reduceBNe, reduceIte, reduceDIte, reduceCtorEq]
      exact int_ok hb0 hb1

def tab15 (B : Base) : Tab := { types := [(27, (.int .i64)), (55, (.st (.pair .bool (.slice (.int .u32))))), (56, (.slice (.st (.pair .bool (.slice (.int .u32)))))), (85, (.slice .str))], elems := [(85, 9)], cons := [(30, cReads), (34, cCmp)], hint := [], N := 25, base := B }
theorem good15 {B : Base} (hB : Tabs B) : MGood Tryd.prog (tab15 B) := ⟨⟨types_cons ty27 (types_cons ty55 (types_cons ty56 (types_cons ty85 (types_nil)))), elems_cons (by kernel_rfl) (elems_nil), by simp only [tab15, ioB]; omega⟩, cons_ok (cals_cons (cal_ok Tryd.func30 (by kernel_rfl) rfl (valid30 hB)) (cals_cons (cal_ok Tryd.func34 (by kernel_rfl) rfl (valid34 hB)) (cals_nil))), by kernel_rfl⟩
def cCmpT : Con := fun l os => match l, os with
  | [.z .str a, .z .str b], [] => some (Short a ∧ Short b, [.z (.int .i64) (cmpV a b), .z (.int .i64) (chkAll [a, b])], [])
  | _, _ => none

theorem valid15 {B : Base} (hB : Tabs B) : Valid B Tryd.prog 15 cCmpT := by
  refine valid_of_J (T := tab15 B) (good15 hB).tab Tryd.func15 rfl rfl rfl ?_
  intro args os C rs os' hc hC
  unfold cCmpT at hc
  split at hc
  case h_2 => cases hc
  rename_i a b
  cases hc
  refine ⟨by simp only [List.length_cons, List.length_nil, tab15]; omega, rfl, ?_⟩
  intro X hP hT hr
  have hG : MGood X.P X.T := by rw [hP, hT]; exact good15 hB
  simp only [Tryd.f15, argEnv, ioList, ioB]
  refine r_seq ?_
  refine r_region hG (by simp only [hT, tab15, cReads, cCmp, mx0, mx1, mx2, mx3, mx4, mx5, effOp, endCall, callOp, appendOp, sliceLV, Ty.fieldTy, Ty.fieldOf, Nat.reduceLT, Nat.reduceEqDiff, Nat.reduceAdd, Nat.reduceMul, Nat.reduceSub, Nat.reduceLeDiff, Nat.reduceBEq, Nat.reduceBNe, reduceIte, reduceDIte, reduceCtorEq]; rfl) ?_ ?_ -- R0
  · trivial
  refine k_seq ?_
  refine r_seq ?_
  refine r_region hG (by simp only [hT, tab15, cReads, cCmp, mx0, mx1, mx2, mx3, mx4, mx5, effOp, endCall, callOp, appendOp, sliceLV, Ty.fieldTy, Ty.fieldOf, Nat.reduceLT, Nat.reduceEqDiff, Nat.reduceAdd, Nat.reduceMul, Nat.reduceSub, Nat.reduceLeDiff, Nat.reduceBEq, Nat.reduceBNe, reduceIte, reduceDIte, reduceCtorEq]; rfl) ?_ ?_ -- R1
  · try simp only [and_true, true_and]
    exact shorts2 hC
  refine k_seq ?_
  refine r_seq ?_
  refine r_seq ?_
  refine r_region hG (by simp only [hT, tab15, cReads, cCmp, mx0, mx1, mx2, mx3, mx4, mx5, effOp, endCall, callOp, appendOp, sliceLV, Ty.fieldTy, Ty.fieldOf, Nat.reduceLT, Nat.reduceEqDiff, Nat.reduceAdd, Nat.reduceMul, Nat.reduceSub, Nat.reduceLeDiff, Nat.reduceBEq, Nat.reduceBNe, reduceIte, reduceDIte, reduceCtorEq]; rfl) ?_ ?_ -- R2
  · trivial
  refine k_seq ?_
  refine r_cond (by simp only [hT, tab15, mx0, mx1, mx2, mx3, mx4, mx5, effOp, endCall, callOp, appendOp, sliceLV, Ty.fieldTy, Ty.fieldOf, Nat.reduceLT, Nat.reduceEqDiff, Nat.reduceAdd, Nat.reduceMul, Nat.reduceSub, Nat.reduceLeDiff, Nat.reduceBEq, Nat.reduceBNe, reduceIte, reduceDIte, reduceCtorEq]; rfl) ?_ ?_
  · intro hb0
    try simp only [decide_eq_true_eq, decide_eq_false_iff_not, beq_iff_eq, bne_iff_ne, Bool.not_eq_true', Bool.and_eq_true] at hb0
    refine r_seq ?_
    refine r_region hG (by simp only [hT, tab15, cReads, cCmp, mx0, mx1, mx2, mx3, mx4, mx5, effOp, endCall, callOp, appendOp, sliceLV, Ty.fieldTy, Ty.fieldOf, Nat.reduceLT, Nat.reduceEqDiff, Nat.reduceAdd, Nat.reduceMul, Nat.reduceSub, Nat.reduceLeDiff, Nat.reduceBEq, Nat.reduceBNe, reduceIte, reduceDIte, reduceCtorEq]; rfl) ?_ ?_ -- R3
    · trivial
    refine k_seq ?_
    refine r_ret ?_
    refine k_seq_ret ?_
    refine ⟨[], ?_⟩
    simp only [hT, tab15, mr0, mr1, mr2, Nat.reduceLT, Nat.reduceEqDiff, Nat.reduceAdd, Nat.reduceMul, Nat.reduceSub, Nat.reduceLeDiff, Nat.reduceBEq, Nat.reduceBNe, reduceIte, reduceDIte, reduceCtorEq]
    exact cmp_bad hb0
  · intro hb0
    try simp only [decide_eq_true_eq, decide_eq_false_iff_not, beq_eq_false_iff_ne, bne_eq_false_iff_eq, Bool.not_eq_false', Bool.and_eq_false_imp] at hb0
    refine r_skip ?_
    refine k_seq ?_
    refine r_seq ?_
    refine r_draw hG (by simp only [hT, mt0, tab15, cReads, cCmp, mx0, mx1, mx2, mx3, mx4, mx5, effOp, endCall, callOp, appendOp, sliceLV, Ty.fieldTy, Ty.fieldOf, Nat.reduceLT, Nat.reduceEqDiff, Nat.reduceAdd, Nat.reduceMul, Nat.reduceSub, Nat.reduceLeDiff, Nat.reduceBEq, Nat.reduceBNe, reduceIte, reduceDIte, reduceCtorEq]; rfl) (by kernel_rfl) (by rfl) (by rfl) ?_ ?_ -- R4
    · try simp only [and_true, true_and]
      exact cmp_side hb0
    refine k_seq ?_
    refine r_ret ?_
    refine ⟨[], ?_⟩
    simp only [hT, tab15, mr0, mr1, mr2, Nat.reduceLT, Nat.reduceEqDiff, Nat.reduceAdd, Nat.reduceMul, Nat.reduceSub, Nat.reduceLeDiff, Nat.reduceBEq, Nat.reduceBNe, reduceIte, reduceDIte, reduceCtorEq]
    exact cmp_ok hb0

end Go.Proofs.YtkgbdpmhdplddaaDoor
end

section
/- The functions of the package exact, one after the other: each meets its contract. -/
set_option linter.unusedSimpArgs false
set_option linter.unusedVariables false
set_option maxRecDepth 100000
namespace Go.Proofs.YtkgbdpmhdplddaaDoor
open Go Go.Cm Go.Proofs

def tab68 (B : Base) : Tab := { types := [(53, (.slice (.int .u32))), (82, (.int .u32)), (83, (.int .u64))], elems := [(53, 82)], cons := [(61, cBack)], hint := [], N := 38, base := B }
theorem good68 {B : Base} (hB : Tabs B) : MGood Tryd.prog (tab68 B) := ⟨⟨types_cons ty53 (types_cons ty82 (types_cons ty83 (types_nil))), elems_cons (by kernel_rfl) (elems_nil), by simp only [tab68, ioB]; omega⟩, cons_ok (cals_cons (cal_ok Tryd.func61 (by kernel_rfl) rfl (valid61 hB)) (cals_nil)), by kernel_rfl⟩
def cShort : Con := fun l os => match l, os with
  | [.z (.slice (.int .u32)) m, .z (.int .u32) b], [] => some (Lim m ∧ Dig1 b ∧ m.length < CAP, [.z (.slice (.int .u32)) (padL (valL m / b).toNat m.length), .z (.int .u32) (valL m % b)], [])
  | _, _ => none

theorem valid68 {B : Base} (hB : Tabs B) : Valid B Tryd.prog 68 cShort := by
  refine valid_of_J (T := tab68 B) (good68 hB).tab Tryd.func68 rfl rfl rfl ?_
  intro args os C rs os' hc hC
  unfold cShort at hc
  split at hc
  case h_2 => cases hc
  rename_i m b
  cases hc
  refine ⟨by simp only [List.length_cons, List.length_nil, tab68]; omega, rfl, ?_⟩
  intro X hP hT hr
  have hG : MGood X.P X.T := by rw [hP, hT]; exact good68 hB
  simp only [Tryd.f68, argEnv, ioList, ioB]
  refine r_seq ?_
  refine r_region hG (by simp only [hT, tab68, cBack, mx0, mx1, mx2, mx3, mx4, mx5, effOp, endCall, callOp, appendOp, sliceLV, Ty.fieldTy, Ty.fieldOf, Nat.reduceLT, Nat.reduceEqDiff, Nat.reduceAdd, Nat.reduceMul, Nat.reduceSub, Nat.reduceLeDiff, Nat.reduceBEq, Nat.reduceBNe, reduceIte, reduceDIte, reduceCtorEq]; rfl) ?_ ?_ -- R0
  · trivial
  refine k_seq ?_
  refine r_seq ?_
  refine r_region hG (by simp only [hT, tab68, cBack, mx0, mx1, mx2, mx3, mx4, mx5, effOp, endCall, callOp, appendOp, sliceLV, Ty.fieldTy, Ty.fieldOf, Nat.reduceLT, Nat.reduceEqDiff, Nat.reduceAdd, Nat.reduceMul, Nat.reduceSub, Nat.reduceLeDiff, Nat.reduceBEq, Nat.reduceBNe, reduceIte, reduceDIte, reduceCtorEq]; rfl) ?_ ?_ -- R1
  · try simp only [and_true, true_and]
    exact ⟨by omega, by omega, by have := hC.2.2; unfold CAP at this; unfold Cm.Roomy; omega⟩
  refine k_seq ?_
  refine r_seq ?_
  refine r_region hG (by simp only [hT, tab68, cBack, mx0, mx1, mx2, mx3, mx4, mx5, effOp, endCall, callOp, appendOp, sliceLV, Ty.fieldTy, Ty.fieldOf, Nat.reduceLT, Nat.reduceEqDiff, Nat.reduceAdd, Nat.reduceMul, Nat.reduceSub, Nat.reduceLeDiff, Nat.reduceBEq, Nat.reduceBNe, reduceIte, reduceDIte, reduceCtorEq]; rfl) ?_ ?_ -- R2
  · trivial
  refine k_seq ?_
  refine r_seq ?_
  refine r_seq ?_
  refine r_region hG (by simp only [hT, tab68, cBack, mx0, mx1, mx2, mx3, mx4, mx5, effOp, endCall, callOp, appendOp, sliceLV, Ty.fieldTy, Ty.fieldOf, Nat.reduceLT, Nat.reduceEqDiff, Nat.reduceAdd, Nat.reduceMul, Nat.reduceSub, Nat.reduceLeDiff, Nat.reduceBEq, Nat.reduceBNe, reduceIte, reduceDIte, reduceCtorEq]; rfl) ?_ ?_ -- R3
  · trivial
  refine k_seq ?_
  refine j_block ?_
  refine j_range hr (gf := 74) (caps := [.z (.ptr (.slice (.int .u32))) m]) (items := backItems m) (by simp only [hT, tab68, mx0, mx1, mx2, mx3, mx4, mx5, effOp, endCall, callOp, appendOp, sliceLV, Ty.fieldTy, Ty.fieldOf, Nat.reduceLT, Nat.reduceEqDiff, Nat.reduceAdd, Nat.reduceMul, Nat.reduceSub, Nat.reduceLeDiff, Nat.reduceBEq, Nat.reduceBNe, reduceIte, reduceDIte, reduceCtorEq]; try rfl) (by rfl) (by rw [hP]; exact seq_back m) (by rfl) [3, 6, 7] (by rfl) (by simp only [hT, tab68]; try rfl) (fun (k : Nat) (z : Int × List Int) => (⟨[(3, .l (.z (.ptr (.int .u32)) b)), (6, .l (.ownP 6 0)), (7, .l (.ownP 7 0))], [(6, .box 53 [.ownS 13]), (7, .box 83 [.z (.int .u64) z.1]), (13, .arr (.int .u32) 82 z.2)]⟩ : AState)) (fun (k : Nat) (z : Int × List Int) => ShortPhi m b k z.1 z.2) (0, List.replicate (List.length m) 0) ?_ ?_ ?_ ?_ ?_
  · simp only [ml0, ml1, Nat.reduceLT, Nat.reduceEqDiff, Nat.reduceAdd, Nat.reduceMul, Nat.reduceSub, Nat.reduceLeDiff, Nat.reduceBEq, Nat.reduceBNe, reduceIte, reduceDIte, reduceCtorEq]
    simp
  · exact short_start hC.2.1
  · intro k z; rfl
  · intro k hk
    rintro ⟨r, out⟩ hz
    try dsimp only at hz
    have hk : k < List.length m := by simpa [backItems] using hk
    refine ⟨_, by simp only [hT, tab68, backItems, backItem, mx0, mx1, mx2, mx3, mx4, mx5, effOp, endCall, callOp, appendOp, sliceLV, Ty.fieldTy, Ty.fieldOf, Nat.reduceLT, Nat.reduceEqDiff, Nat.reduceAdd, Nat.reduceMul, Nat.reduceSub, Nat.reduceLeDiff, Nat.reduceBEq, Nat.reduceBNe, reduceIte, reduceDIte, reduceCtorEq, List.getElem_map, List.getElem_range]; rfl, ?_⟩
    intro X' hP' hT'
    have hG' : MGood X'.P X'.T := by rw [hP', hT']; exact hG.keep _
    rw [hT] at hT'
    refine j_block ?_
    refine r_seq ?_
    refine r_region hG' (by simp only [hT', tab68, cBack, mx0, mx1, mx2, mx3, mx4, mx5, effOp, endCall, callOp, appendOp, sliceLV, Ty.fieldTy, Ty.fieldOf, Nat.reduceLT, Nat.reduceEqDiff, Nat.reduceAdd, Nat.reduceMul, Nat.reduceSub, Nat.reduceLeDiff, Nat.reduceBEq, Nat.reduceBNe, reduceIte, reduceDIte, reduceCtorEq]; rfl) ?_ ?_ -- R6
    · trivial
    refine k_seq ?_
    refine r_draw hG' (by simp only [hT', mt0, tab68, cBack, mx0, mx1, mx2, mx3, mx4, mx5, effOp, endCall, callOp, appendOp, sliceLV, Ty.fieldTy, Ty.fieldOf, Nat.reduceLT, Nat.reduceEqDiff, Nat.reduceAdd, Nat.reduceMul, Nat.reduceSub, Nat.reduceLeDiff, Nat.reduceBEq, Nat.reduceBNe, reduceIte, reduceDIte, reduceCtorEq]; rfl) (by kernel_rfl) (by rfl) (by rfl) ?_ ?_ -- R7
    · try simp only [and_true, true_and]
      have hl := hz.1
      exact ⟨dig1_ne hC.2.1, dig1_ne hC.2.1, by omega, by omega⟩
    refine k_block ?_
    show ∃ z, _
    simp only [ml0, ml1, Nat.reduceLT, Nat.reduceEqDiff, Nat.reduceAdd, Nat.reduceMul, Nat.reduceSub, Nat.reduceLeDiff, Nat.reduceBEq, Nat.reduceBNe, reduceIte, reduceDIte, reduceCtorEq]
    exact short_next hC.1 hC.2.1 hk hz
  · rintro ⟨r, out⟩ hz
    try dsimp only at hz
    rw [show List.length (backItems m) = List.length m by simp [backItems]] at hz
    refine k_block ?_
    refine k_seq ?_
    refine r_seq ?_
    refine r_draw hG (by simp only [hT, mt0, tab68, cBack, mx0, mx1, mx2, mx3, mx4, mx5, effOp, endCall, callOp, appendOp, sliceLV, Ty.fieldTy, Ty.fieldOf, Nat.reduceLT, Nat.reduceEqDiff, Nat.reduceAdd, Nat.reduceMul, Nat.reduceSub, Nat.reduceLeDiff, Nat.reduceBEq, Nat.reduceBNe, reduceIte, reduceDIte, reduceCtorEq]; rfl) (by kernel_rfl) (by rfl) (by rfl) ?_ ?_ -- R8
    · trivial
    refine k_seq ?_
    refine r_ret ?_
    refine ⟨[13], ?_⟩
    simp only [hT, tab68, mr0, mr1, mr2, Nat.reduceLT, Nat.reduceEqDiff, Nat.reduceAdd, Nat.reduceMul, Nat.reduceSub, Nat.reduceLeDiff, Nat.reduceBEq, Nat.reduceBNe, reduceIte, reduceDIte, reduceCtorEq]
    exact short_end hC.1 hC.2.1 hz

def tab69 (B : Base) : Tab := { types := [(3, (.int .i64)), (53, (.slice (.int .u32))), (82, (.int .u32)), (83, (.int .u64))], elems := [(53, 82)], cons := [], hint := [], N := 41, base := B }
theorem good69 {B : Base} (hB : Tabs B) : MGood Tryd.prog (tab69 B) := ⟨⟨types_cons ty3 (types_cons ty53 (types_cons ty82 (types_cons ty83 (types_nil)))), elems_cons (by kernel_rfl) (elems_nil), by simp only [tab69, ioB]; omega⟩, cons_nil rfl, by kernel_rfl⟩
def cScaled : Con := fun l os => match l, os with
  | [.z (.slice (.int .u32)) m, .z (.int .u32) b], [] => some (Lim m ∧ Dig0 b ∧ m.length < CAP, [.own (.int .u32) 82 (padL (valL m * b).toNat (m.length + 1))], [])
  | _, _ => none

theorem valid69 {B : Base} (hB : Tabs B) : Valid B Tryd.prog 69 cScaled := by
  refine valid_of_J (T := tab69 B) (good69 hB).tab Tryd.func69 rfl rfl rfl ?_
  intro args os C rs os' hc hC
  unfold cScaled at hc
  split at hc
  case h_2 => cases hc
  rename_i m b
  cases hc
  refine ⟨by simp only [List.length_cons, List.length_nil, tab69]; omega, rfl, ?_⟩
  intro X hP hT hr
  have hG : MGood X.P X.T := by rw [hP, hT]; exact good69 hB
  simp only [Tryd.f69, argEnv, ioList, ioB]
  refine r_seq ?_
  refine r_region hG (by simp only [hT, tab69, mx0, mx1, mx2, mx3, mx4, mx5, effOp, endCall, callOp, appendOp, sliceLV, Ty.fieldTy, Ty.fieldOf, Nat.reduceLT, Nat.reduceEqDiff, Nat.reduceAdd, Nat.reduceMul, Nat.reduceSub, Nat.reduceLeDiff, Nat.reduceBEq, Nat.reduceBNe, reduceIte, reduceDIte, reduceCtorEq]; rfl) ?_ ?_ -- R0
  · trivial
  refine k_seq ?_
  refine r_seq ?_
  refine r_region hG (by simp only [hT, tab69, mx0, mx1, mx2, mx3, mx4, mx5, effOp, endCall, callOp, appendOp, sliceLV, Ty.fieldTy, Ty.fieldOf, Nat.reduceLT, Nat.reduceEqDiff, Nat.reduceAdd, Nat.reduceMul, Nat.reduceSub, Nat.reduceLeDiff, Nat.reduceBEq, Nat.reduceBNe, reduceIte, reduceDIte, reduceCtorEq]; rfl) ?_ ?_ -- R1
  · try simp only [and_true, true_and]
    have h1 : List.length m < 1000000000000 := hC.2.2
    rw [wi (by omega) (by omega)]
    exact ⟨by omega, by omega, by unfold Cm.Roomy; omega⟩
  refine k_seq ?_
  refine r_seq ?_
  refine r_region hG (by simp only [hT, tab69, mx0, mx1, mx2, mx3, mx4, mx5, effOp, endCall, callOp, appendOp, sliceLV, Ty.fieldTy, Ty.fieldOf, Nat.reduceLT, Nat.reduceEqDiff, Nat.reduceAdd, Nat.reduceMul, Nat.reduceSub, Nat.reduceLeDiff, Nat.reduceBEq, Nat.reduceBNe, reduceIte, reduceDIte, reduceCtorEq]; rfl) ?_ ?_ -- R2
  · trivial
  refine k_seq ?_
  refine r_seq ?_
  refine r_seq ?_
  refine r_region hG (by simp only [hT, tab69, mx0, mx1, mx2, mx3, mx4, mx5, effOp, endCall, callOp, appendOp, sliceLV, Ty.fieldTy, Ty.fieldOf, Nat.reduceLT, Nat.reduceEqDiff, Nat.reduceAdd, Nat.reduceMul, Nat.reduceSub, Nat.reduceLeDiff, Nat.reduceBEq, Nat.reduceBNe, reduceIte, reduceDIte, reduceCtorEq]; rfl) ?_ ?_ -- R3
  · trivial
  refine k_seq ?_
  refine j_block ?_
  refine j_loop (fun (z : Nat × Int × List Int) => (⟨[(1, .l (.z (.int .u32) b)), (5, .l (.ownS 13)), (6, .l (.z (.int .u64) z.2.1)), (14, .l (.z (.slice (.int .u32)) m)), (15, .l (.z (.int .i64) (List.length m : Int))), (16, .l (.z (.int .i64) (z.1 : Int)))], [(13, .arr (.int .u32) 82 z.2.2)]⟩ : AState)) (fun z => ScaledPhi m b z.1 z.2.1 z.2.2) (fun z => List.length m - z.1) (0, 0, []) ?_ ?_ ?_
  · simp only [ml0, ml1, Nat.reduceLT, Nat.reduceEqDiff, Nat.reduceAdd, Nat.reduceMul, Nat.reduceSub, Nat.reduceLeDiff, Nat.reduceBEq, Nat.reduceBNe, reduceIte, reduceDIte, reduceCtorEq]
    exact ⟨rfl, rfl⟩
  · exact scaled_start
  · rintro ⟨k, c, out⟩ hz
    try dsimp only at hz
    refine r_seq ?_
    refine r_region hG (by simp only [hT, tab69, mx0, mx1, mx2, mx3, mx4, mx5, effOp, endCall, callOp, appendOp, sliceLV, Ty.fieldTy, Ty.fieldOf, Nat.reduceLT, Nat.reduceEqDiff, Nat.reduceAdd, Nat.reduceMul, Nat.reduceSub, Nat.reduceLeDiff, Nat.reduceBEq, Nat.reduceBNe, reduceIte, reduceDIte, reduceCtorEq]; rfl) ?_ ?_ -- R4
    · trivial
    refine k_seq ?_
    refine r_seq ?_
    refine r_cond (by simp only [hT, tab69, mx0, mx1, mx2, mx3, mx4, mx5, effOp, endCall, callOp, appendOp, sliceLV, Ty.fieldTy, Ty.fieldOf, Nat.reduceLT, Nat.reduceEqDiff, Nat.reduceAdd, Nat.reduceMul, Nat.reduceSub, Nat.reduceLeDiff, Nat.reduceBEq, Nat.reduceBNe, reduceIte, reduceDIte, reduceCtorEq]; rfl) ?_ ?_
    · intro hb0
      try simp only [decide_eq_true_eq, decide_eq_false_iff_not, beq_iff_eq, bne_iff_ne, Bool.not_eq_true', Bool.and_eq_true] at hb0
      refine r_skip ?_
      refine k_seq ?_
      refine r_seq ?_
      refine j_block ?_
      refine r_seq ?_
      refine r_region hG (by simp only [hT, tab69, mx0, mx1, mx2, mx3, mx4, mx5, effOp, endCall, callOp, appendOp, sliceLV, Ty.fieldTy, Ty.fieldOf, Nat.reduceLT, Nat.reduceEqDiff, Nat.reduceAdd, Nat.reduceMul, Nat.reduceSub, Nat.reduceLeDiff, Nat.reduceBEq, Nat.reduceBNe, reduceIte, reduceDIte, reduceCtorEq]; rfl) ?_ ?_ -- R5
      · try simp only [and_true, true_and]
        exact ⟨by omega, hb0⟩
      refine k_seq ?_
      refine r_seq ?_
      refine r_region hG (by simp only [hT, tab69, mx0, mx1, mx2, mx3, mx4, mx5, effOp, endCall, callOp, appendOp, sliceLV, Ty.fieldTy, Ty.fieldOf, Nat.reduceLT, Nat.reduceEqDiff, Nat.reduceAdd, Nat.reduceMul, Nat.reduceSub, Nat.reduceLeDiff, Nat.reduceBEq, Nat.reduceBNe, reduceIte, reduceDIte, reduceCtorEq]; rfl) ?_ ?_ -- R6
      · trivial
      refine k_seq ?_
      refine r_region hG (by simp only [hT, tab69, mx0, mx1, mx2, mx3, mx4, mx5, effOp, endCall, callOp, appendOp, sliceLV, Ty.fieldTy, Ty.fieldOf, Nat.reduceLT, Nat.reduceEqDiff, Nat.reduceAdd, Nat.reduceMul, Nat.reduceSub, Nat.reduceLeDiff, Nat.reduceBEq, Nat.reduceBNe, reduceIte, reduceDIte, reduceCtorEq]; rfl) ?_ ?_ -- R7
      · try simp only [and_true, true_and]
        have h1 : List.length m < 1000000000000 := hC.2.2
        have h2 := hz.2.1
        exact ⟨by decide, by unfold Cm.Roomy; omega, by decide⟩
      refine k_block ?_
      refine k_seq ?_
      refine r_region hG (by simp only [hT, tab69, mx0, mx1, mx2, mx3, mx4, mx5, effOp, endCall, callOp, appendOp, sliceLV, Ty.fieldTy, Ty.fieldOf, Nat.reduceLT, Nat.reduceEqDiff, Nat.reduceAdd, Nat.reduceMul, Nat.reduceSub, Nat.reduceLeDiff, Nat.reduceBEq, Nat.reduceBNe, reduceIte, reduceDIte, reduceCtorEq]; rfl) ?_ ?_ -- R8
      · trivial
      show ∃ z, _
      simp only [ml0, ml1, Nat.reduceLT, Nat.reduceEqDiff, Nat.reduceAdd, Nat.reduceMul, Nat.reduceSub, Nat.reduceLeDiff, Nat.reduceBEq, Nat.reduceBNe, reduceIte, reduceDIte, reduceCtorEq]
      exact scaled_next hC.1 hC.2.2 hC.2.1 hb0 hz
    · intro hb0
      try simp only [decide_eq_true_eq, decide_eq_false_iff_not, beq_eq_false_iff_ne, bne_eq_false_iff_eq, Bool.not_eq_false', Bool.and_eq_false_imp] at hb0
      refine r_exit ?_
      refine k_seq_exit ?_
      refine k_round_exit ?_
      refine k_block_exit ?_
      refine k_seq ?_
      refine r_seq ?_
      refine r_region hG (by simp only [hT, tab69, mx0, mx1, mx2, mx3, mx4, mx5, effOp, endCall, callOp, appendOp, sliceLV, Ty.fieldTy, Ty.fieldOf, Nat.reduceLT, Nat.reduceEqDiff, Nat.reduceAdd, Nat.reduceMul, Nat.reduceSub, Nat.reduceLeDiff, Nat.reduceBEq, Nat.reduceBNe, reduceIte, reduceDIte, reduceCtorEq]; rfl) ?_ ?_ -- R9
      · try simp only [and_true, true_and]
        have h1 : List.length m < 1000000000000 := hC.2.2
        have h2 := hz.2.1
        have h3 := hz.1
        unfold Cm.Roomy; omega
      refine k_seq ?_
      refine r_ret ?_
      refine ⟨[], ?_⟩
      simp only [hT, tab69, mr0, mr1, mr2, Nat.reduceLT, Nat.reduceEqDiff, Nat.reduceAdd, Nat.reduceMul, Nat.reduceSub, Nat.reduceLeDiff, Nat.reduceBEq, Nat.reduceBNe, reduceIte, reduceDIte, reduceCtorEq]
      exact ⟨trivial, scaled_end hC.1 hC.2.1 hb0 hz⟩

end Go.Proofs.YtkgbdpmhdplddaaDoor
end

section
/- The functions of the package exact, one after the other: each meets its contract. -/
set_option linter.unusedSimpArgs false
set_option linter.unusedVariables false
set_option maxRecDepth 100000
namespace Go.Proofs.YtkgbdpmhdplddaaDoor
open Go Go.Cm Go.Proofs

def tab70 (B : Base) : Tab := { types := [(2, (.int .i64)), (3, (.int .i64)), (53, (.slice (.int .u32))), (82, (.int .u32)), (83, (.int .u64))], elems := [], cons := [], hint := [], N := 57, base := B }
theorem good70 {B : Base} (hB : Tabs B) : MGood Tryd.prog (tab70 B) := ⟨⟨types_cons ty2 (types_cons ty3 (types_cons ty53 (types_cons ty82 (types_cons ty83 (types_nil))))), elems_nil, by simp only [tab70, ioB]; omega⟩, cons_nil rfl, by kernel_rfl⟩
def cLose : Con := fun l os => match l, os with
  | [.ownS 10000000, .z (.slice (.int .u32)) o, .z (.int .u64) q], [.win (.int .u32) 82 pre xs []] => some (Lim xs ∧ Lim o ∧ Dig0 q ∧ o.length + 1 ≤ xs.length ∧ o.length < CAP, [.z .bool (decide (valL (xs.take (o.length + 1)) < q * valL o))], [.win (.int .u32) 82 pre (put xs (o.length + 1) (valL (xs.take (o.length + 1)) - q * valL o)) []])
  | _, _ => none

theorem valid70 {B : Base} (hB : Tabs B) : Valid B Tryd.prog 70 cLose := by
  refine valid_of_J (T := tab70 B) (good70 hB).tab Tryd.func70 rfl rfl rfl ?_
  intro args os C rs os' hc hC
  unfold cLose at hc
  split at hc
  case h_2 => cases hc
  rename_i o q pre xs
  cases hc
  refine ⟨by simp only [List.length_cons, List.length_nil, tab70]; omega, rfl, ?_⟩
  intro X hP hT hr
  have hG : MGood X.P X.T := by rw [hP, hT]; exact good70 hB
  simp only [Tryd.f70, argEnv, ioList, ioB]
  refine r_seq ?_
  refine r_region hG (by simp only [hT, tab70, mx0, mx1, mx2, mx3, mx4, mx5, effOp, endCall, callOp, appendOp, sliceLV, Ty.fieldTy, Ty.fieldOf, Nat.reduceLT, Nat.reduceEqDiff, Nat.reduceAdd, Nat.reduceMul, Nat.reduceSub, Nat.reduceLeDiff, Nat.reduceBEq, Nat.reduceBNe, reduceIte, reduceDIte, reduceCtorEq]; rfl) ?_ ?_ -- R0
  · trivial
  refine k_seq ?_
  refine r_seq ?_
  refine r_region hG (by simp only [hT, tab70, mx0, mx1, mx2, mx3, mx4, mx5, effOp, endCall, callOp, appendOp, sliceLV, Ty.fieldTy, Ty.fieldOf, Nat.reduceLT, Nat.reduceEqDiff, Nat.reduceAdd, Nat.reduceMul, Nat.reduceSub, Nat.reduceLeDiff, Nat.reduceBEq, Nat.reduceBNe, reduceIte, reduceDIte, reduceCtorEq]; rfl) ?_ ?_ -- R1
  · trivial
  refine k_seq ?_
  refine r_seq ?_
  refine r_seq ?_
  refine r_region hG (by simp only [hT, tab70, mx0, mx1, mx2, mx3, mx4, mx5, effOp, endCall, callOp, appendOp, sliceLV, Ty.fieldTy, Ty.fieldOf, Nat.reduceLT, Nat.reduceEqDiff, Nat.reduceAdd, Nat.reduceMul, Nat.reduceSub, Nat.reduceLeDiff, Nat.reduceBEq, Nat.reduceBNe, reduceIte, reduceDIte, reduceCtorEq]; rfl) ?_ ?_ -- R2
  · trivial
  refine k_seq ?_
  refine j_block ?_
  refine j_loop (fun (z : Nat × Int × Int × List Int) => (⟨[(0, .l (.ownS 10000000)), (1, .l (.z (.slice (.int .u32)) o)), (2, .l (.z (.int .u64) q)), (7, .l (.z (.int .u64) z.2.1)), (8, .l (.z (.int .i64) z.2.2.1)), (14, .l (.z (.int .i64) ((List.length o + 1 : Nat) : Int))), (15, .l (.z (.int .i64) (z.1 : Int)))], [(10000000, .win (.int .u32) 82 pre z.2.2.2 [])]⟩ : AState)) (fun z => LosePhi xs o q z.1 z.2.1 z.2.2.1 z.2.2.2) (fun z => List.length o + 1 - z.1) (0, 0, 0, xs) ?_ ?_ ?_
  · simp only [ml0, ml1, Nat.reduceLT, Nat.reduceEqDiff, Nat.reduceAdd, Nat.reduceMul, Nat.reduceSub, Nat.reduceLeDiff, Nat.reduceBEq, Nat.reduceBNe, reduceIte, reduceDIte, reduceCtorEq]
    exact ⟨wi (by omega) (by have : List.length o < 1000000000000 := hC.2.2.2.2; omega), rfl⟩
  · exact lose_start hC.1
  · rintro ⟨i, c, b, ys⟩ hz
    try dsimp only at hz
    have hl := hz.2.1
    have hlen := hC.2.2.2.1
    refine r_seq ?_
    refine r_region hG (by simp only [hT, tab70, mx0, mx1, mx2, mx3, mx4, mx5, effOp, endCall, callOp, appendOp, sliceLV, Ty.fieldTy, Ty.fieldOf, Nat.reduceLT, Nat.reduceEqDiff, Nat.reduceAdd, Nat.reduceMul, Nat.reduceSub, Nat.reduceLeDiff, Nat.reduceBEq, Nat.reduceBNe, reduceIte, reduceDIte, reduceCtorEq]; rfl) ?_ ?_ -- R3
    · trivial
    refine k_seq ?_
    refine r_seq ?_
    refine r_cond (by simp only [hT, tab70, mx0, mx1, mx2, mx3, mx4, mx5, effOp, endCall, callOp, appendOp, sliceLV, Ty.fieldTy, Ty.fieldOf, Nat.reduceLT, Nat.reduceEqDiff, Nat.reduceAdd, Nat.reduceMul, Nat.reduceSub, Nat.reduceLeDiff, Nat.reduceBEq, Nat.reduceBNe, reduceIte, reduceDIte, reduceCtorEq]; rfl) ?_ ?_
    · intro hb0
      try simp only [decide_eq_true_eq, decide_eq_false_iff_not, beq_iff_eq, bne_iff_ne, Bool.not_eq_true', Bool.and_eq_true] at hb0
      refine r_skip ?_
      refine k_seq ?_
      refine r_seq ?_
      refine j_block ?_
      refine r_seq ?_
      refine r_region hG (by simp only [hT, tab70, mx0, mx1, mx2, mx3, mx4, mx5, effOp, endCall, callOp, appendOp, sliceLV, Ty.fieldTy, Ty.fieldOf, Nat.reduceLT, Nat.reduceEqDiff, Nat.reduceAdd, Nat.reduceMul, Nat.reduceSub, Nat.reduceLeDiff, Nat.reduceBEq, Nat.reduceBNe, reduceIte, reduceDIte, reduceCtorEq]; rfl) ?_ ?_ -- R4
      · trivial
      refine k_seq ?_
      refine r_seq ?_
      refine r_region hG (by simp only [hT, tab70, mx0, mx1, mx2, mx3, mx4, mx5, effOp, endCall, callOp, appendOp, sliceLV, Ty.fieldTy, Ty.fieldOf, Nat.reduceLT, Nat.reduceEqDiff, Nat.reduceAdd, Nat.reduceMul, Nat.reduceSub, Nat.reduceLeDiff, Nat.reduceBEq, Nat.reduceBNe, reduceIte, reduceDIte, reduceCtorEq]; rfl) ?_ ?_ -- R5
      · trivial
      refine k_seq ?_
      refine r_cut (fun (z : Int) => (⟨[(0, .l (.ownS 10000000)), (1, .l (.z (.slice (.int .u32)) o)), (2, .l (.z (.int .u64) q)), (8, .l (.z (.int .i64) b)), (9, .l (.z (.int .i64) (i : Int))), (10, .l (.z (.int .u64) z)), (14, .l (.z (.int .i64) ((List.length o + 1 : Nat) : Int))), (15, .l (.z (.int .i64) (i : Int)))], [(10000000, .win (.int .u32) 82 pre ys [])]⟩ : AState)) (fun z => z = c + q * o.getD i 0) ?_ ?_
      · refine r_seq ?_
        refine r_region hG (by simp only [hT, tab70, mx0, mx1, mx2, mx3, mx4, mx5, effOp, endCall, callOp, appendOp, sliceLV, Ty.fieldTy, Ty.fieldOf, Nat.reduceLT, Nat.reduceEqDiff, Nat.reduceAdd, Nat.reduceMul, Nat.reduceSub, Nat.reduceLeDiff, Nat.reduceBEq, Nat.reduceBNe, reduceIte, reduceDIte, reduceCtorEq]; rfl) ?_ ?_ -- R6
        · trivial
        refine k_seq ?_
        refine r_cond (by simp only [hT, tab70, mx0, mx1, mx2, mx3, mx4, mx5, effOp, endCall, callOp, appendOp, sliceLV, Ty.fieldTy, Ty.fieldOf, Nat.reduceLT, Nat.reduceEqDiff, Nat.reduceAdd, Nat.reduceMul, Nat.reduceSub, Nat.reduceLeDiff, Nat.reduceBEq, Nat.reduceBNe, reduceIte, reduceDIte, reduceCtorEq]; rfl) ?_ ?_
        · intro hb1
          try simp only [decide_eq_true_eq, decide_eq_false_iff_not, beq_iff_eq, bne_iff_ne, Bool.not_eq_true', Bool.and_eq_true] at hb1
          refine r_region hG (by simp only [hT, tab70, mx0, mx1, mx2, mx3, mx4, mx5, effOp, endCall, callOp, appendOp, sliceLV, Ty.fieldTy, Ty.fieldOf, Nat.reduceLT, Nat.reduceEqDiff, Nat.reduceAdd, Nat.reduceMul, Nat.reduceSub, Nat.reduceLeDiff, Nat.reduceBEq, Nat.reduceBNe, reduceIte, reduceDIte, reduceCtorEq]; rfl) ?_ ?_ -- R7
          · try simp only [and_true, true_and]
            exact ⟨by omega, hb1⟩
          show ∃ z, _
          simp only [ml0, ml1, Nat.reduceLT, Nat.reduceEqDiff, Nat.reduceAdd, Nat.reduceMul, Nat.reduceSub, Nat.reduceLeDiff, Nat.reduceBEq, Nat.reduceBNe, reduceIte, reduceDIte, reduceCtorEq]
          first | exact lose_w i hC.2.1 hC.2.2.1 hz.2.2.2.2.1 | exact lose_none hb1
        · intro hb1
          try simp only [decide_eq_true_eq, decide_eq_false_iff_not, beq_eq_false_iff_ne, bne_eq_false_iff_eq, Bool.not_eq_false', Bool.and_eq_false_imp] at hb1
          refine r_skip ?_
          show ∃ z, _
          simp only [ml0, ml1, Nat.reduceLT, Nat.reduceEqDiff, Nat.reduceAdd, Nat.reduceMul, Nat.reduceSub, Nat.reduceLeDiff, Nat.reduceBEq, Nat.reduceBNe, reduceIte, reduceDIte, reduceCtorEq]
          first | exact lose_w i hC.2.1 hC.2.2.1 hz.2.2.2.2.1 | exact lose_none hb1
      rintro n hn
      try dsimp only at hn
      have hn2 : 0 ≤ n ∧ n < LB * LB := by rw [hn]; have := lose_n i hC.2.1 hC.2.2.1 hz.2.2.2.2.1; exact ⟨this.1, this.2.1⟩
      refine r_seq ?_
      refine r_region hG (by simp only [hT, tab70, mx0, mx1, mx2, mx3, mx4, mx5, effOp, endCall, callOp, appendOp, sliceLV, Ty.fieldTy, Ty.fieldOf, Nat.reduceLT, Nat.reduceEqDiff, Nat.reduceAdd, Nat.reduceMul, Nat.reduceSub, Nat.reduceLeDiff, Nat.reduceBEq, Nat.reduceBNe, reduceIte, reduceDIte, reduceCtorEq]; rfl) ?_ ?_ -- R8
      · try simp only [and_true, true_and]
        decide
      refine k_seq ?_
      refine r_seq ?_
      refine r_region hG (by simp only [hT, tab70, mx0, mx1, mx2, mx3, mx4, mx5, effOp, endCall, callOp, appendOp, sliceLV, Ty.fieldTy, Ty.fieldOf, Nat.reduceLT, Nat.reduceEqDiff, Nat.reduceAdd, Nat.reduceMul, Nat.reduceSub, Nat.reduceLeDiff, Nat.reduceBEq, Nat.reduceBNe, reduceIte, reduceDIte, reduceCtorEq]; rfl) ?_ ?_ -- R9
      · try simp only [and_true, true_and]
        exact ⟨⟨by omega, by omega⟩, by omega, by decide⟩
      refine k_seq ?_
      refine r_seq ?_
      refine r_region hG (by simp only [hT, tab70, mx0, mx1, mx2, mx3, mx4, mx5, effOp, endCall, callOp, appendOp, sliceLV, Ty.fieldTy, Ty.fieldOf, Nat.reduceLT, Nat.reduceEqDiff, Nat.reduceAdd, Nat.reduceMul, Nat.reduceSub, Nat.reduceLeDiff, Nat.reduceBEq, Nat.reduceBNe, reduceIte, reduceDIte, reduceCtorEq]; rfl) ?_ ?_ -- R10
      · trivial
      refine k_seq ?_
      refine r_cut (fun (z : Int × Int) => (⟨[(0, .l (.ownS 10000000)), (1, .l (.z (.slice (.int .u32)) o)), (2, .l (.z (.int .u64) q)), (7, .l (.z (.int .u64) (n / LB))), (8, .l (.z (.int .i64) z.2)), (9, .l (.z (.int .i64) (i : Int))), (11, .l (.z (.int .i64) z.1)), (14, .l (.z (.int .i64) ((List.length o + 1 : Nat) : Int))), (15, .l (.z (.int .i64) (i : Int)))], [(10000000, .win (.int .u32) 82 pre ys [])]⟩ : AState)) (fun z => (0 ≤ z.1 ∧ z.1 < LB) ∧ (0 ≤ z.2 ∧ z.2 ≤ 1) ∧ z.1 - LB * z.2 = ys.getD i 0 - n % LB - b) ?_ ?_
      · refine r_seq ?_
        refine r_region hG (by simp only [hT, tab70, mx0, mx1, mx2, mx3, mx4, mx5, effOp, endCall, callOp, appendOp, sliceLV, Ty.fieldTy, Ty.fieldOf, Nat.reduceLT, Nat.reduceEqDiff, Nat.reduceAdd, Nat.reduceMul, Nat.reduceSub, Nat.reduceLeDiff, Nat.reduceBEq, Nat.reduceBNe, reduceIte, reduceDIte, reduceCtorEq]; rfl) ?_ ?_ -- R11
        · trivial
        refine k_seq ?_
        refine r_cond (by simp only [hT, tab70, mx0, mx1, mx2, mx3, mx4, mx5, effOp, endCall, callOp, appendOp, sliceLV, Ty.fieldTy, Ty.fieldOf, Nat.reduceLT, Nat.reduceEqDiff, Nat.reduceAdd, Nat.reduceMul, Nat.reduceSub, Nat.reduceLeDiff, Nat.reduceBEq, Nat.reduceBNe, reduceIte, reduceDIte, reduceCtorEq]; rfl) ?_ ?_
        · intro hb2
          try simp only [decide_eq_true_eq, decide_eq_false_iff_not, beq_iff_eq, bne_iff_ne, Bool.not_eq_true', Bool.and_eq_true] at hb2
          refine r_region hG (by simp only [hT, tab70, mx0, mx1, mx2, mx3, mx4, mx5, effOp, endCall, callOp, appendOp, sliceLV, Ty.fieldTy, Ty.fieldOf, Nat.reduceLT, Nat.reduceEqDiff, Nat.reduceAdd, Nat.reduceMul, Nat.reduceSub, Nat.reduceLeDiff, Nat.reduceBEq, Nat.reduceBNe, reduceIte, reduceDIte, reduceCtorEq]; rfl) ?_ ?_ -- R12
          · trivial
          show ∃ z, _
          simp only [ml0, ml1, Nat.reduceLT, Nat.reduceEqDiff, Nat.reduceAdd, Nat.reduceMul, Nat.reduceSub, Nat.reduceLeDiff, Nat.reduceBEq, Nat.reduceBNe, reduceIte, reduceDIte, reduceCtorEq]
          first | exact (by simpa only [and_assoc] using (lose_cut hz.2.2.1 hn2 hz.2.2.2.2.2.2.1 rfl).1 hb2) | exact (by simpa only [and_assoc] using (lose_cut hz.2.2.1 hn2 hz.2.2.2.2.2.2.1 rfl).2 hb2)
        · intro hb2
          try simp only [decide_eq_true_eq, decide_eq_false_iff_not, beq_eq_false_iff_ne, bne_eq_false_iff_eq, Bool.not_eq_false', Bool.and_eq_false_imp] at hb2
          refine r_skip ?_
          show ∃ z, _
          simp only [ml0, ml1, Nat.reduceLT, Nat.reduceEqDiff, Nat.reduceAdd, Nat.reduceMul, Nat.reduceSub, Nat.reduceLeDiff, Nat.reduceBEq, Nat.reduceBNe, reduceIte, reduceDIte, reduceCtorEq]
          first | exact (by simpa only [and_assoc] using (lose_cut hz.2.2.1 hn2 hz.2.2.2.2.2.2.1 rfl).1 hb2) | exact (by simpa only [and_assoc] using (lose_cut hz.2.2.1 hn2 hz.2.2.2.2.2.2.1 rfl).2 hb2)
      rintro ⟨v, b2⟩ hv
      try dsimp only at hv
      refine r_region hG (by simp only [hT, tab70, mx0, mx1, mx2, mx3, mx4, mx5, effOp, endCall, callOp, appendOp, sliceLV, Ty.fieldTy, Ty.fieldOf, Nat.reduceLT, Nat.reduceEqDiff, Nat.reduceAdd, Nat.reduceMul, Nat.reduceSub, Nat.reduceLeDiff, Nat.reduceBEq, Nat.reduceBNe, reduceIte, reduceDIte, reduceCtorEq]; rfl) ?_ ?_ -- R13
      · try simp only [and_true, true_and]
        exact ⟨⟨by omega, by omega⟩, by omega⟩
      refine k_block ?_
      refine k_seq ?_
      refine r_region hG (by simp only [hT, tab70, mx0, mx1, mx2, mx3, mx4, mx5, effOp, endCall, callOp, appendOp, sliceLV, Ty.fieldTy, Ty.fieldOf, Nat.reduceLT, Nat.reduceEqDiff, Nat.reduceAdd, Nat.reduceMul, Nat.reduceSub, Nat.reduceLeDiff, Nat.reduceBEq, Nat.reduceBNe, reduceIte, reduceDIte, reduceCtorEq]; rfl) ?_ ?_ -- R14
      · trivial
      show ∃ z, _
      simp only [ml0, ml1, Nat.reduceLT, Nat.reduceEqDiff, Nat.reduceAdd, Nat.reduceMul, Nat.reduceSub, Nat.reduceLeDiff, Nat.reduceBEq, Nat.reduceBNe, reduceIte, reduceDIte, reduceCtorEq]
      exact lose_next hC.2.1 hC.2.2.1 hC.2.2.2.1 hC.2.2.2.2 hz hb0 hn hv
    · intro hb0
      try simp only [decide_eq_true_eq, decide_eq_false_iff_not, beq_eq_false_iff_ne, bne_eq_false_iff_eq, Bool.not_eq_false', Bool.and_eq_false_imp] at hb0
      refine r_exit ?_
      refine k_seq_exit ?_
      refine k_round_exit ?_
      refine k_block_exit ?_
      refine k_seq ?_
      refine r_seq ?_
      refine r_region hG (by simp only [hT, tab70, mx0, mx1, mx2, mx3, mx4, mx5, effOp, endCall, callOp, appendOp, sliceLV, Ty.fieldTy, Ty.fieldOf, Nat.reduceLT, Nat.reduceEqDiff, Nat.reduceAdd, Nat.reduceMul, Nat.reduceSub, Nat.reduceLeDiff, Nat.reduceBEq, Nat.reduceBNe, reduceIte, reduceDIte, reduceCtorEq]; rfl) ?_ ?_ -- R15
      · trivial
      refine k_seq ?_
      refine r_ret ?_
      refine ⟨[], ?_⟩
      simp only [hT, tab70, mr0, mr1, mr2, Nat.reduceLT, Nat.reduceEqDiff, Nat.reduceAdd, Nat.reduceMul, Nat.reduceSub, Nat.reduceLeDiff, Nat.reduceBEq, Nat.reduceBNe, reduceIte, reduceDIte, reduceCtorEq]
      exact ⟨(lose_end hC.2.2.2.1 hz (by omega)).2, trivial, (lose_end hC.2.2.2.1 hz (by omega)).1⟩

def tab71 (B : Base) : Tab := { types := [(3, (.int .i64)), (53, (.slice (.int .u32))), (82, (.int .u32))], elems := [], cons := [], hint := [], N := 37, base := B }
theorem good71 {B : Base} (hB : Tabs B) : MGood Tryd.prog (tab71 B) := ⟨⟨types_cons ty3 (types_cons ty53 (types_cons ty82 (types_nil))), elems_nil, by simp only [tab71, ioB]; omega⟩, cons_nil rfl, by kernel_rfl⟩
def cGain : Con := fun l os => match l, os with
  | [.ownS 10000000, .z (.slice (.int .u32)) o], [.win (.int .u32) 82 pre xs []] => some (Lim xs ∧ Lim o ∧ o.length + 1 ≤ xs.length ∧ o.length < CAP, [], [.win (.int .u32) 82 pre (put xs (o.length + 1) (valL (xs.take (o.length + 1)) + valL o)) []])
  | _, _ => none

theorem valid71 {B : Base} (hB : Tabs B) : Valid B Tryd.prog 71 cGain := by
  refine valid_of_J (T := tab71 B) (good71 hB).tab Tryd.func71 rfl rfl rfl ?_
  intro args os C rs os' hc hC
  unfold cGain at hc
  split at hc
  case h_2 => cases hc
  rename_i o pre xs
  cases hc
  refine ⟨by simp only [List.length_cons, List.length_nil, tab71]; omega, rfl, ?_⟩
  intro X hP hT hr
  have hG : MGood X.P X.T := by rw [hP, hT]; exact good71 hB
  simp only [Tryd.f71, argEnv, ioList, ioB]
  refine r_seq ?_
  refine r_region hG (by simp only [hT, tab71, mx0, mx1, mx2, mx3, mx4, mx5, effOp, endCall, callOp, appendOp, sliceLV, Ty.fieldTy, Ty.fieldOf, Nat.reduceLT, Nat.reduceEqDiff, Nat.reduceAdd, Nat.reduceMul, Nat.reduceSub, Nat.reduceLeDiff, Nat.reduceBEq, Nat.reduceBNe, reduceIte, reduceDIte, reduceCtorEq]; rfl) ?_ ?_ -- R0
  · trivial
  refine k_seq ?_
  refine r_seq ?_
  refine r_region hG (by simp only [hT, tab71, mx0, mx1, mx2, mx3, mx4, mx5, effOp, endCall, callOp, appendOp, sliceLV, Ty.fieldTy, Ty.fieldOf, Nat.reduceLT, Nat.reduceEqDiff, Nat.reduceAdd, Nat.reduceMul, Nat.reduceSub, Nat.reduceLeDiff, Nat.reduceBEq, Nat.reduceBNe, reduceIte, reduceDIte, reduceCtorEq]; rfl) ?_ ?_ -- R1
  · trivial
  refine k_seq ?_
  refine j_block ?_
  refine j_loop (fun (z : Nat × Int × List Int) => (⟨[(0, .l (.ownS 10000000)), (1, .l (.z (.slice (.int .u32)) o)), (4, .l (.z (.int .u32) z.2.1)), (9, .l (.z (.int .i64) ((List.length o + 1 : Nat) : Int))), (10, .l (.z (.int .i64) (z.1 : Int)))], [(10000000, .win (.int .u32) 82 pre z.2.2 [])]⟩ : AState)) (fun z => GainPhi xs o z.1 z.2.1 z.2.2) (fun z => List.length o + 1 - z.1) (0, 0, xs) ?_ ?_ ?_
  · simp only [ml0, ml1, Nat.reduceLT, Nat.reduceEqDiff, Nat.reduceAdd, Nat.reduceMul, Nat.reduceSub, Nat.reduceLeDiff, Nat.reduceBEq, Nat.reduceBNe, reduceIte, reduceDIte, reduceCtorEq]
    exact ⟨wi (by omega) (by have : List.length o < 1000000000000 := hC.2.2.2; omega), rfl⟩
  · exact gain_start hC.1
  · rintro ⟨i, c, ys⟩ hz
    try dsimp only at hz
    have hl := hz.2.1
    have hlen := hC.2.2.1
    refine r_seq ?_
    refine r_region hG (by simp only [hT, tab71, mx0, mx1, mx2, mx3, mx4, mx5, effOp, endCall, callOp, appendOp, sliceLV, Ty.fieldTy, Ty.fieldOf, Nat.reduceLT, Nat.reduceEqDiff, Nat.reduceAdd, Nat.reduceMul, Nat.reduceSub, Nat.reduceLeDiff, Nat.reduceBEq, Nat.reduceBNe, reduceIte, reduceDIte, reduceCtorEq]; rfl) ?_ ?_ -- R2
    · trivial
    refine k_seq ?_
    refine r_seq ?_
    refine r_cond (by simp only [hT, tab71, mx0, mx1, mx2, mx3, mx4, mx5, effOp, endCall, callOp, appendOp, sliceLV, Ty.fieldTy, Ty.fieldOf, Nat.reduceLT, Nat.reduceEqDiff, Nat.reduceAdd, Nat.reduceMul, Nat.reduceSub, Nat.reduceLeDiff, Nat.reduceBEq, Nat.reduceBNe, reduceIte, reduceDIte, reduceCtorEq]; rfl) ?_ ?_
    · intro hb0
      try simp only [decide_eq_true_eq, decide_eq_false_iff_not, beq_iff_eq, bne_iff_ne, Bool.not_eq_true', Bool.and_eq_true] at hb0
      refine r_skip ?_
      refine k_seq ?_
      refine r_seq ?_
      refine j_block ?_
      refine r_seq ?_
      refine r_region hG (by simp only [hT, tab71, mx0, mx1, mx2, mx3, mx4, mx5, effOp, endCall, callOp, appendOp, sliceLV, Ty.fieldTy, Ty.fieldOf, Nat.reduceLT, Nat.reduceEqDiff, Nat.reduceAdd, Nat.reduceMul, Nat.reduceSub, Nat.reduceLeDiff, Nat.reduceBEq, Nat.reduceBNe, reduceIte, reduceDIte, reduceCtorEq]; rfl) ?_ ?_ -- R3
      · trivial
      refine k_seq ?_
      refine r_seq ?_
      refine r_region hG (by simp only [hT, tab71, mx0, mx1, mx2, mx3, mx4, mx5, effOp, endCall, callOp, appendOp, sliceLV, Ty.fieldTy, Ty.fieldOf, Nat.reduceLT, Nat.reduceEqDiff, Nat.reduceAdd, Nat.reduceMul, Nat.reduceSub, Nat.reduceLeDiff, Nat.reduceBEq, Nat.reduceBNe, reduceIte, reduceDIte, reduceCtorEq]; rfl) ?_ ?_ -- R4
      · try simp only [and_true, true_and]
        exact ⟨⟨by omega, by omega⟩, by omega⟩
      refine k_seq ?_
      refine r_cut (fun (z : Int) => (⟨[(0, .l (.ownS 10000000)), (1, .l (.z (.slice (.int .u32)) o)), (5, .l (.z (.int .i64) (i : Int))), (6, .l (.z (.int .u32) z)), (9, .l (.z (.int .i64) ((List.length o + 1 : Nat) : Int))), (10, .l (.z (.int .i64) (i : Int)))], [(10000000, .win (.int .u32) 82 pre ys [])]⟩ : AState)) (fun z => z = ys.getD i 0 + c + o.getD i 0) ?_ ?_
      · refine r_seq ?_
        refine r_region hG (by simp only [hT, tab71, mx0, mx1, mx2, mx3, mx4, mx5, effOp, endCall, callOp, appendOp, sliceLV, Ty.fieldTy, Ty.fieldOf, Nat.reduceLT, Nat.reduceEqDiff, Nat.reduceAdd, Nat.reduceMul, Nat.reduceSub, Nat.reduceLeDiff, Nat.reduceBEq, Nat.reduceBNe, reduceIte, reduceDIte, reduceCtorEq]; rfl) ?_ ?_ -- R5
        · trivial
        refine k_seq ?_
        refine r_cond (by simp only [hT, tab71, mx0, mx1, mx2, mx3, mx4, mx5, effOp, endCall, callOp, appendOp, sliceLV, Ty.fieldTy, Ty.fieldOf, Nat.reduceLT, Nat.reduceEqDiff, Nat.reduceAdd, Nat.reduceMul, Nat.reduceSub, Nat.reduceLeDiff, Nat.reduceBEq, Nat.reduceBNe, reduceIte, reduceDIte, reduceCtorEq]; rfl) ?_ ?_
        · intro hb1
          try simp only [decide_eq_true_eq, decide_eq_false_iff_not, beq_iff_eq, bne_iff_ne, Bool.not_eq_true', Bool.and_eq_true] at hb1
          refine r_region hG (by simp only [hT, tab71, mx0, mx1, mx2, mx3, mx4, mx5, effOp, endCall, callOp, appendOp, sliceLV, Ty.fieldTy, Ty.fieldOf, Nat.reduceLT, Nat.reduceEqDiff, Nat.reduceAdd, Nat.reduceMul, Nat.reduceSub, Nat.reduceLeDiff, Nat.reduceBEq, Nat.reduceBNe, reduceIte, reduceDIte, reduceCtorEq]; rfl) ?_ ?_ -- R6
          · try simp only [and_true, true_and]
            exact ⟨by omega, hb1⟩
          show ∃ z, _
          simp only [ml0, ml1, Nat.reduceLT, Nat.reduceEqDiff, Nat.reduceAdd, Nat.reduceMul, Nat.reduceSub, Nat.reduceLeDiff, Nat.reduceBEq, Nat.reduceBNe, reduceIte, reduceDIte, reduceCtorEq]
          first | exact (gain_w i hz.2.2.1 hC.2.1 hz.2.2.2.2.1).2 hb1 | exact (gain_w i hz.2.2.1 hC.2.1 hz.2.2.2.2.1).1
        · intro hb1
          try simp only [decide_eq_true_eq, decide_eq_false_iff_not, beq_eq_false_iff_ne, bne_eq_false_iff_eq, Bool.not_eq_false', Bool.and_eq_false_imp] at hb1
          refine r_skip ?_
          show ∃ z, _
          simp only [ml0, ml1, Nat.reduceLT, Nat.reduceEqDiff, Nat.reduceAdd, Nat.reduceMul, Nat.reduceSub, Nat.reduceLeDiff, Nat.reduceBEq, Nat.reduceBNe, reduceIte, reduceDIte, reduceCtorEq]
          first | exact (gain_w i hz.2.2.1 hC.2.1 hz.2.2.2.2.1).2 hb1 | exact (gain_w i hz.2.2.1 hC.2.1 hz.2.2.2.2.1).1
      rintro n hn
      try dsimp only at hn
      refine r_region hG (by simp only [hT, tab71, mx0, mx1, mx2, mx3, mx4, mx5, effOp, endCall, callOp, appendOp, sliceLV, Ty.fieldTy, Ty.fieldOf, Nat.reduceLT, Nat.reduceEqDiff, Nat.reduceAdd, Nat.reduceMul, Nat.reduceSub, Nat.reduceLeDiff, Nat.reduceBEq, Nat.reduceBNe, reduceIte, reduceDIte, reduceCtorEq]; rfl) ?_ ?_ -- R7
      · try simp only [and_true, true_and]
        exact ⟨by decide, by decide, ⟨by omega, by omega⟩, by omega⟩
      refine k_block ?_
      refine k_seq ?_
      refine r_region hG (by simp only [hT, tab71, mx0, mx1, mx2, mx3, mx4, mx5, effOp, endCall, callOp, appendOp, sliceLV, Ty.fieldTy, Ty.fieldOf, Nat.reduceLT, Nat.reduceEqDiff, Nat.reduceAdd, Nat.reduceMul, Nat.reduceSub, Nat.reduceLeDiff, Nat.reduceBEq, Nat.reduceBNe, reduceIte, reduceDIte, reduceCtorEq]; rfl) ?_ ?_ -- R8
      · trivial
      show ∃ z, _
      simp only [ml0, ml1, Nat.reduceLT, Nat.reduceEqDiff, Nat.reduceAdd, Nat.reduceMul, Nat.reduceSub, Nat.reduceLeDiff, Nat.reduceBEq, Nat.reduceBNe, reduceIte, reduceDIte, reduceCtorEq]
      exact gain_next hC.2.1 hC.2.2.1 hC.2.2.2 hz hb0 hn
    · intro hb0
      try simp only [decide_eq_true_eq, decide_eq_false_iff_not, beq_eq_false_iff_ne, bne_eq_false_iff_eq, Bool.not_eq_false', Bool.and_eq_false_imp] at hb0
      refine r_exit ?_
      refine k_seq_exit ?_
      refine k_round_exit ?_
      refine k_block_exit ?_
      refine ⟨[], ?_⟩
      simp only [hT, tab71, mr0, mr1, mr2, Nat.reduceLT, Nat.reduceEqDiff, Nat.reduceAdd, Nat.reduceMul, Nat.reduceSub, Nat.reduceLeDiff, Nat.reduceBEq, Nat.reduceBNe, reduceIte, reduceDIte, reduceCtorEq]
      exact ⟨trivial, gain_end hC.2.2.1 hz (by omega)⟩

end Go.Proofs.YtkgbdpmhdplddaaDoor
end
