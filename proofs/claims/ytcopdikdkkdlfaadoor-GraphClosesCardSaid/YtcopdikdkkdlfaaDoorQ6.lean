/- GraphCloses: the whole card, with no condition. -/
import Derived.Test.YtcopdikdkkdlfaaDoorQ4
import Derived.Test.YtcopdikdkkdlfaaDoorQ3
import Derived.Test.YtcopdikdkkdlfaaDoorProg
import Derived.Test.YtcopdikdkkdlfaaDoorQ5
import Derived.WalkKit
set_option linter.all false
set_option linter.unusedSimpArgs false
set_option linter.unusedVariables false

section
/- What the laws ask, in plain words. No program is in sight. -/
namespace Go.Cm.Gr
open Go.Cm
theorem shr_fit {m n : Nat} (h : m < 2 ^ n) (hn : n ≤ 32) : ((m : Int)).fdiv (2 ^ (min ((n : Int)).toNat IntKind.u64.bits)) = 0 := by
  rw [Int.toNat_natCast, shr64 (by omega), shr_zero.2 h]; rfl
theorem one_raw {v : Nat} (hv : v < 32) : IntKind.u64.wrap (1 * 2 ^ (min ((v : Int)).toNat IntKind.u64.bits)) = ((1 <<< v : Nat) : Int) := by
  rw [Int.toNat_natCast, shl1 (by omega)]
theorem one_ok {g : Gph} (hg : Val g) {v : Nat} (hv : v < g.length) : U64 (IntKind.u64.wrap (1 * 2 ^ (min ((v : Int)).toNat IntKind.u64.bits))) ∧ (IntKind.u64.wrap (1 * 2 ^ (min ((v : Int)).toNat IntKind.u64.bits))).toNat < 2 ^ g.length := by
  have := hg.most
  rw [one_raw (by omega), Int.toNat_natCast]
  exact ⟨u64_nat (one_lt32 (by omega)), one_lt hv⟩
theorem bit_is {m v : Nat} (hm : m < 2 ^ 64) (hv : v ≤ 64) : IntKind.u64.wrap ((BitVec.ofInt IntKind.u64.bits (((m : Int)).fdiv (2 ^ (min ((v : Int)).toNat IntKind.u64.bits))) &&& BitVec.ofInt IntKind.u64.bits 1).toNat : Int) = if m.testBit v = true then 1 else 0 := by
  rw [Int.toNat_natCast]; exact bit64 hm hv
theorem bit_eq1 {m v : Nat} (hm : m < 2 ^ 64) (hv : v ≤ 64) : (IntKind.u64.wrap ((BitVec.ofInt IntKind.u64.bits (((m : Int)).fdiv (2 ^ (min ((v : Int)).toNat IntKind.u64.bits))) &&& BitVec.ofInt IntKind.u64.bits 1).toNat : Int) == 1) = m.testBit v := by
  rw [bit_is hm hv]; cases m.testBit v <;> rfl
theorem bit_eq0 {m v : Nat} (hm : m < 2 ^ 64) (hv : v ≤ 64) : (IntKind.u64.wrap ((BitVec.ofInt IntKind.u64.bits (((m : Int)).fdiv (2 ^ (min ((v : Int)).toNat IntKind.u64.bits))) &&& BitVec.ofInt IntKind.u64.bits 1).toNat : Int) == 0) = !m.testBit v := by
  rw [bit_is hm hv]; cases m.testBit v <;> rfl
theorem back_lt {g : Gph} (s : Nat) : back g s < 2 ^ g.length := mask_lt _ _
theorem lt64 {g : Gph} (hg : Val g) {s : Nat} (hs : s < 2 ^ g.length) : s < 2 ^ 64 := Nat.lt_trans (lt32 hg hs) (by decide)
theorem turn_eq {g : Gph} (hg : Val g) {s v : Nat} (hs : s < 2 ^ g.length) (hv : v < g.length) : (IntKind.u64.wrap ((BitVec.ofInt IntKind.u64.bits (reach g (IntKind.u64.wrap (1 * 2 ^ (min ((v : Int)).toNat IntKind.u64.bits))).toNat : Int) &&& BitVec.ofInt IntKind.u64.bits (s : Int)).toNat : Int) != 0) = (IntKind.u64.wrap ((BitVec.ofInt IntKind.u64.bits (((back g s : Nat) : Int).fdiv (2 ^ (min ((v : Int)).toNat IntKind.u64.bits))) &&& BitVec.ofInt IntKind.u64.bits 1).toNat : Int) == 1) := by
  have := hg.most
  rw [bit_eq1 (lt64 hg (back_lt s)) (by omega), one_raw (by omega), Int.toNat_natCast]
  have h := hits_iff hg (u64_nat (lt32 hg hs)) hv
  rw [Int.toNat_natCast] at h
  have hb : (back g s).testBit v = hits g s v := by
    rw [← back_mask, mask_bit]; simp [hv]
  rw [hb]
  cases hh : hits g s v with
  | false => rw [h.2 hh]; rfl
  | true =>
    rw [bne_iff_ne]
    intro e
    rw [h.1 e] at hh; cases hh
end Go.Cm.Gr
end

section
/- GraphCloses in plain words. No program is in sight. -/
namespace Go.Cm.Gr
open Go.Cm
/-- One step of the search for the least distance of a node before w. -/
def lstF (g : Gph) (s w : Nat) (m : Int) (v : Nat) : Int := if 0 ≤ gi (far g s) v ∧ (row g v).contains (w : Int) = true ∧ (m < 0 ∨ gi (far g s) v < m) then gi (far g s) v else m
def lst (g : Gph) (s w z : Nat) : Int := (List.range z).foldl (lstF g s w) (-1)
def lstE (g : Gph) (s w : Nat) : Int := if s.testBit w = true then 0 else if 0 ≤ lst g s w g.length then lst g s w g.length + 1 else lst g s w g.length
theorem lst_zero (g : Gph) (s w : Nat) : lst g s w 0 = -1 := rfl
theorem lst_succ (g : Gph) (s w z : Nat) : lst g s w (z + 1) = lstF g s w (lst g s w z) z := by simp [lst, List.range_succ]
theorem contains_E {g : Gph} {v w : Nat} : (row g v).contains (w : Int) = true ↔ E g v w := by rw [List.contains_eq_mem, decide_eq_true_eq]; rfl

theorem lst_spec (g : Gph) (s w : Nat) : ∀ z, (lst g s w z = -1 ∧ ∀ v, v < z → 0 ≤ gi (far g s) v → ¬ E g v w) ∨
    (0 ≤ lst g s w z ∧ (∃ v, v < z ∧ gi (far g s) v = lst g s w z ∧ E g v w) ∧ ∀ v, v < z → 0 ≤ gi (far g s) v → E g v w → lst g s w z ≤ gi (far g s) v)
  | 0 => .inl ⟨rfl, fun v h => by omega⟩
  | z + 1 => by
    rw [lst_succ, lstF]
    rcases lst_spec g s w z with ⟨h1, h2⟩ | ⟨h1, ⟨u, hu, hu2, hu3⟩, h2⟩
    · rw [h1]
      by_cases hc : 0 ≤ gi (far g s) z ∧ (row g z).contains (w : Int) = true ∧ ((-1 : Int) < 0 ∨ gi (far g s) z < -1)
      · rw [if_pos hc]
        refine .inr ⟨hc.1, ⟨z, by omega, rfl, contains_E.1 hc.2.1⟩, fun v hv h0 he => ?_⟩
        rcases Nat.lt_succ_iff_lt_or_eq.1 hv with hv | hv
        · exact absurd he (h2 v hv h0)
        · subst hv; exact Int.le_refl _
      · rw [if_neg hc]
        refine .inl ⟨rfl, fun v hv h0 he => ?_⟩
        rcases Nat.lt_succ_iff_lt_or_eq.1 hv with hv | hv
        · exact h2 v hv h0 he
        · subst hv; exact hc ⟨h0, contains_E.2 he, .inl (by omega)⟩
    · by_cases hc : 0 ≤ gi (far g s) z ∧ (row g z).contains (w : Int) = true ∧ (lst g s w z < 0 ∨ gi (far g s) z < lst g s w z)
      · rw [if_pos hc]
        refine .inr ⟨hc.1, ⟨z, by omega, rfl, contains_E.1 hc.2.1⟩, fun v hv h0 he => ?_⟩
        rcases Nat.lt_succ_iff_lt_or_eq.1 hv with hv | hv
        · have := h2 v hv h0 he
          rcases hc.2.2 with h3 | h3 <;> omega
        · subst hv; exact Int.le_refl _
      · rw [if_neg hc]
        refine .inr ⟨h1, ⟨u, by omega, hu2, hu3⟩, fun v hv h0 he => ?_⟩
        rcases Nat.lt_succ_iff_lt_or_eq.1 hv with hv | hv
        · exact h2 v hv h0 he
        · subst hv
          rcases Int.lt_or_le (gi (far g s) v) (lst g s w v) with h3 | h3
          · exact absurd ⟨h0, contains_E.2 he, .inr h3⟩ hc
          · exact h3

theorem far_is {g : Gph} (hg : Val g) {s : Nat} (hs : s < 2 ^ g.length) {v : Nat} (hv : v < g.length) : (∃ k, Dist g s k v ∧ gi (far g s) v = k) ∨ ((∀ k, ¬ Wk g s k v) ∧ gi (far g s) v = -1) := by
  rw [far_at hv]; exact far1_spec hg hs

theorem far_closes {g : Gph} (hg : Val g) {s : Nat} (hs : s < 2 ^ g.length) {w : Nat} (hw : w < g.length) : gi (far g s) w = lstE g s w := by
  unfold lstE
  by_cases hb : s.testBit w = true
  · rw [if_pos hb]
    rcases far_is hg hs hw with ⟨k, hk, e⟩ | ⟨hk, _⟩
    · have : k = 0 := by
        rcases Nat.eq_zero_or_pos k with h | h
        · exact h
        · exact absurd hb (hk.2 0 h)
      rw [e, this]; rfl
    · exact absurd hb (hk 0)
  · rw [if_neg hb]
    have hbound : ∀ {v : Nat}, E g v w → v < g.length := fun h => (hg.lt h).1
    rcases lst_spec g s w g.length with ⟨h1, h2⟩ | ⟨h1, ⟨u, hu, hu2, hu3⟩, h2⟩
    · rw [h1, if_neg (by omega)]
      rcases far_is hg hs hw with ⟨k, hk, e⟩ | ⟨_, e⟩
      · cases k with
        | zero => exact absurd hk.1 hb
        | succ j =>
          obtain ⟨v, hv, he⟩ := hk.pred
          have hvl := hbound he
          rcases far_is hg hs hvl with ⟨i, hi, e2⟩ | ⟨hi, _⟩
          · exact absurd he (h2 v hvl (by omega))
          · exact absurd hv.1 (hi j)
      · exact e
    · rw [if_pos h1]
      rcases far_is hg hs hu with ⟨i, hi, e2⟩ | ⟨_, e2⟩
      · have hwk : Wk g s (i + 1) w := ⟨u, hi.1, hu3⟩
        rcases far_is hg hs hw with ⟨k, hk, e⟩ | ⟨hk, _⟩
        · have hle : k ≤ i + 1 := by
            rcases Nat.lt_or_ge (i + 1) k with h | h
            · exact absurd hwk (hk.2 _ h)
            · exact h
          cases k with
          | zero => exact absurd hk.1 hb
          | succ j =>
            obtain ⟨v, hv, he⟩ := hk.pred
            have hvl := hbound he
            rcases far_is hg hs hvl with ⟨i', hi', e3⟩ | ⟨hi', _⟩
            · have : i' = j := hi'.uniq hv
              subst this
              have := h2 v hvl (by omega) he
              omega
            · exact absurd hv.1 (hi' j)
        · exact absurd hwk (hk _)
      · omega

theorem far_saw {g : Gph} (hg : Val g) {s : Nat} (hs : s < 2 ^ g.length) {w : Nat} (hw : w < g.length) : decide (0 ≤ gi (far g s) w) = (reach g s).testBit w := by
  rw [far_at hw, ← mask_reach hg hs, mask_bit]
  simp [sawB, hw]
theorem reach_sub {g : Gph} (hg : Val g) {s : Nat} (hs : s < 2 ^ g.length) {i : Nat} (h : s.testBit i = true) : (reach g s).testBit i = true := (reach_bit hg hs).2 ⟨i, h, .refl i⟩
theorem reach_again {g : Gph} (hg : Val g) {s : Nat} (hs : s < 2 ^ g.length) : reach g (reach g s) = reach g s := by
  have hr := reach_lt hg hs
  refine Nat.eq_of_testBit_eq fun i => ?_
  rw [Bool.eq_iff_iff]
  refine ⟨fun h => ?_, reach_sub hg hr⟩
  obtain ⟨v, hv, h1⟩ := (reach_bit hg hr).1 h
  obtain ⟨u, hu, h2⟩ := (reach_bit hg hs).1 hv
  exact (reach_bit hg hs).2 ⟨u, hu, h2.trans h1⟩
theorem andNot64 {a b : Nat} (ha : a < 2 ^ 64) (hb : b < 2 ^ 64) (h : ∀ i, a.testBit i = true → b.testBit i = true) : IntKind.u64.wrap ((BitVec.ofInt IntKind.u64.bits (a : Int) &&& ~~~BitVec.ofInt IntKind.u64.bits (b : Int)).toNat : Int) = 0 := by
  have e : (BitVec.ofInt 64 (a : Int) &&& ~~~BitVec.ofInt 64 (b : Int)) = 0#64 := by
    rw [ofInt_nat, ofInt_nat]
    apply BitVec.eq_of_getLsbD_eq
    intro i hi
    rw [BitVec.getLsbD_and, BitVec.getLsbD_not, BitVec.getLsbD_ofNat, BitVec.getLsbD_ofNat]
    cases h1 : a.testBit i with
    | false => simp
    | true => rw [h i h1]; simp [hi]
  show IntKind.u64.wrap ((BitVec.ofInt 64 (a : Int) &&& ~~~BitVec.ofInt 64 (b : Int)).toNat : Int) = 0
  rw [e]; rfl
theorem close_test {g : Gph} (hg : Val g) {s : Nat} (hs : s < 2 ^ g.length) : (IntKind.u64.wrap ((BitVec.ofInt IntKind.u64.bits (s : Int) &&& ~~~BitVec.ofInt IntKind.u64.bits (reach g s : Int)).toNat : Int) != 0 || (reach g (reach g s) : Int) != (reach g s : Int) || ((far g s).length : Int) != (g.length : Int) || ((reach g s : Nat) : Int).fdiv (2 ^ (min g.length IntKind.u64.bits)) != 0) = false := by
  have hr := reach_lt hg hs
  have h1 := andNot64 (lt64 hg hs) (lt64 hg hr) (fun i => reach_sub hg hs)
  have h2 := shr_fit hr hg.most
  rw [Int.toNat_natCast] at h2
  rw [h1, reach_again hg hs, far_len, h2]
  simp
theorem close_step {g : Gph} (hg : Val g) {s : Nat} (hs : s < 2 ^ g.length) {w : Nat} (hw : w < g.length) : (gi (far g s) w != lstE g s w || decide (0 ≤ gi (far g s) w) != (IntKind.u64.wrap ((BitVec.ofInt IntKind.u64.bits (((reach g s : Nat) : Int).fdiv (2 ^ (min ((w : Int)).toNat IntKind.u64.bits))) &&& BitVec.ofInt IntKind.u64.bits 1).toNat : Int) == 1)) = false := by
  have := hg.most
  rw [bit_eq1 (lt64 hg (reach_lt hg hs)) (by omega), far_saw hg hs hw, far_closes hg hs hw]
  simp
theorem far_le {g : Gph} (hg : Val g) {s : Nat} (hs : s < 2 ^ g.length) {v : Nat} (hv : v < g.length) : gi (far g s) v ≤ 32 := by
  have := hg.most
  rcases far_is hg hs hv with ⟨k, hk, e⟩ | ⟨_, e⟩
  · have := hk.lt hg hs; omega
  · omega
theorem lst_lim {g : Gph} (hg : Val g) {s w z : Nat} (hs : s < 2 ^ g.length) (hz : z ≤ g.length) : -1 ≤ lst g s w z ∧ lst g s w z ≤ 32 := by
  rcases lst_spec g s w z with ⟨h, _⟩ | ⟨h, ⟨v, hv, h2, _⟩, _⟩
  · omega
  · have := far_le hg hs (v := v) (by omega); omega
theorem lst_t {g : Gph} {s w v : Nat} (h : (0 ≤ gi (far g s) v ∧ (row' g v).contains (w : Int) = true) ∧ (decide (lst g s w v < 0) || decide (gi (far g s) v < lst g s w v)) = true) : gi (far g s) v = lst g s w (v + 1) := by
  rw [lst_succ, lstF, if_pos ⟨h.1.1, h.1.2, by simpa using h.2⟩]
theorem lst_f {g : Gph} {s w v : Nat} (h : (decide (0 ≤ gi (far g s) v) && (row' g v).contains (w : Int)) = true → (decide (lst g s w v < 0) || decide (gi (far g s) v < lst g s w v)) = false) : lst g s w v = lst g s w (v + 1) := by
  rw [lst_succ, lstF, if_neg]
  intro hc
  have h1 := h (by rw [decide_eq_true hc.1]; exact hc.2.1)
  have h2 := hc.2.2
  simp only [Bool.or_eq_false_iff, decide_eq_false_iff_not] at h1
  omega
end Go.Cm.Gr
end

section
/- The functions of the package graph, one after the other: each meets its contract. -/
set_option linter.unusedSimpArgs false
set_option linter.unusedVariables false
set_option maxRecDepth 100000
namespace Go.Proofs.YtcopdikdkkdlfaaDoor
open Go Go.Cm Go.Cm.Gr Go.Proofs

def tab5 (B : Base) : Tab := { types := [(3, (.int .i64)), (4, .bool), (24, (.st (.pair (.int .u8) (.pair (.slice (.arr 2 (.int .u8))) .bool)))), (25, (.int .u16)), (27, (.slice (.slice (.int .i64)))), (30, (.int .u64)), (32, (.int .i64)), (36, (.slice (.int .i64)))], elems := [], cons := [(10, cWorks), (11, cDraft), (12, cSome), (14, cReachV), (17, cFarV), (21, cHas)], hint := [], N := 138, base := B }
theorem good5 {B : Base} (hB : Tabs B) : MGood Tryd.prog (tab5 B) := ⟨⟨types_cons ty3 (types_cons ty4 (types_cons ty24 (types_cons ty25 (types_cons ty27 (types_cons ty30 (types_cons ty32 (types_cons ty36 (types_nil)))))))), elems_nil, by simp only [tab5, ioB]; omega⟩, cons_ok (cals_cons (cal_ok Tryd.func10 (by kernel_rfl) rfl (valid10 hB)) (cals_cons (cal_ok Tryd.func11 (by kernel_rfl) rfl (valid11 hB)) (cals_cons (cal_ok Tryd.func12 (by kernel_rfl) rfl (valid12 hB)) (cals_cons (cal_ok Tryd.func14 (by kernel_rfl) rfl (valid14v hB)) (cals_cons (cal_ok Tryd.func17 (by kernel_rfl) rfl (valid17v hB)) (cals_cons (cal_ok Tryd.func21 (by kernel_rfl) rfl (valid21 hB)) (cals_nil))))))), by kernel_rfl⟩
def cCloses : Con := fun l os => match l, os with
  | [.z (.st (.pair (.int .u8) (.pair (.slice (.arr 2 (.int .u8))) .bool))) d, .z (.int .u16) x], [] => some (Dok d ∧ 0 ≤ x ∧ x < 65536, [.z .bool true], [])
  | _, _ => none

set_option maxHeartbeats 2000000 in
theorem valid5 {B : Base} (hB : Tabs B) : Valid B Tryd.prog 5 cCloses := by
  refine valid_of_J (T := tab5 B) (good5 hB).tab Tryd.func5 rfl rfl rfl ?_
  intro args os C rs os' hc hC
  unfold cCloses at hc
  split at hc
  case h_2 => cases hc
  rename_i d x
  cases hc
  refine ⟨by simp only [List.length_cons, List.length_nil, tab5]; omega, rfl, ?_⟩
  intro X hP hT hr
  have hG : MGood X.P X.T := by rw [hP, hT]; exact good5 hB
  unfold tab5 at hT
  have hX := And.intro (@cDraft.eq_1) <| And.intro (@cFarV.eq_1) <| And.intro (@cHas.eq_1) <| And.intro (@cReachV.eq_1) <| And.intro (@cSome.eq_1) <| @cWorks.eq_1
  simp only [Tryd.f5, argEnv, ioList, ioB]
  refine r_seq ?_
  obtain ⟨hd, hx0, hx1⟩ := hC
  have hv := draft_val d
  have n1 := hv.one
  have n2 := hv.most
  have hs := someV_lt (gD d) x
  have hs32 := lt32 hv hs
  have hr := reach_lt hv hs
  refine q_region hG ?_ ?_ -- R0
  · first | trivial | omega | (simp; done) | (simp; omega)
  refine k_seq ?_
  refine r_seq ?_
  refine r_seq ?_
  refine q_region hG ?_ ?_ -- R1
  · first | trivial | omega | (simp; done) | (simp; omega)
  refine k_seq ?_
  refine q_cond ?_ ?_
  · intro hb0
    cases hb0
  · intro hb0
    try simp only [decide_eq_true_eq, decide_eq_false_iff_not, beq_eq_false_iff_ne, bne_eq_false_iff_eq, Bool.not_eq_false', Bool.and_eq_false_imp] at hb0
    try simp only [nth_gi, nth_row] at hb0
    refine r_skip ?_
    refine k_seq ?_
    refine r_seq ?_
    refine q_region hG ?_ ?_ -- R3
    · try simp only [and_true, true_and]
      exact hd
    refine k_seq ?_
    refine r_seq ?_
    refine q_region hG ?_ ?_ -- R4
    · try simp only [and_true, true_and]
      exact ⟨hx0, hx1, by omega⟩
    refine k_seq ?_
    refine r_seq ?_
    refine q_region hG ?_ ?_ -- R5
    · try simp only [and_true, true_and]
      exact ⟨hv, u64_nat hs32, by rw [Int.toNat_natCast]; exact hs⟩
    refine k_seq ?_
    refine r_seq ?_
    refine q_region hG ?_ ?_ -- R6
    · try simp only [and_true, true_and]
      exact ⟨hv, u64_nat hs32, by rw [Int.toNat_natCast]; exact hs⟩
    refine k_seq ?_
    refine r_seq ?_
    refine q_region hG ?_ ?_ -- R7
    · try simp only [and_true, true_and]
      simp only [Int.toNat_natCast]
      exact ⟨hv, u64_nat (lt32 hv hr), hr⟩
    refine k_seq ?_
    refine r_seq ?_
    refine r_seq ?_
    refine q_region hG ?_ ?_ -- R8
    · try simp only [and_true, true_and]
      (repeat' (first | apply And.intro | intro _)) <;> first | assumption | omega | (rename_i h; rw [h]; rfl) | (rename_i h1 h2; rw [h1, h2]; rfl)
    refine k_seq ?_
    refine q_cond ?_ ?_
    · intro hb1
      simp only [Int.toNat_natCast] at hb1
      exact absurd hb1 (Bool.eq_false_iff.1 (close_test hv hs))
    · intro hb1
      try simp only [decide_eq_true_eq, decide_eq_false_iff_not, beq_eq_false_iff_ne, bne_eq_false_iff_eq, Bool.not_eq_false', Bool.and_eq_false_imp] at hb1
      try simp only [nth_gi, nth_row] at hb1
      clear hb1
      refine r_skip ?_
      refine k_seq ?_
      refine r_seq ?_
      refine r_seq ?_
      refine q_region hG ?_ ?_ -- R10
      · first | trivial | omega | (simp; done) | (simp; omega)
      refine k_seq ?_
      refine j_block ?_
      refine j_loop (fun (z : Nat) => (⟨[(4, .l (.z .bool false)), (5, .l (.z (.slice (.slice (.int .i64))) (gD d))), (6, .l (.z (.int .u64) (someV (gD d) x : Int))), (7, .l (.z (.int .u64) (reach (gD d) (someV (gD d) x) : Int))), (9, .l (.z (.slice (.int .i64)) (far (gD d) (someV (gD d) x)))), (78, .l (.z (.slice (.int .i64)) (far (gD d) (someV (gD d) x)))), (79, .l (.z (.int .i64) ((gD d).length : Int))), (80, .l (.z (.int .i64) (z : Int)))], []⟩ : AState)) (fun z => z ≤ (gD d).length) (fun z => (gD d).length - z) 0 ?_ ?_ ?_
      · simp only [ml0, ml1, Nat.reduceLT, Nat.reduceEqDiff, Nat.reduceAdd, Nat.reduceMul, Nat.reduceSub, Nat.reduceLeDiff, Nat.reduceBEq, Nat.reduceBNe, reduceIte, reduceDIte, reduceCtorEq]
        simp only [Int.toNat_natCast]
        exact ⟨trivial, trivial, trivial, by rw [far_len], rfl⟩
      · omega
      · rintro w g1
        try dsimp only at g1
        refine r_seq ?_
        refine q_region hG ?_ ?_ -- R11
        · first | trivial | omega | (simp; done) | (simp; omega)
        refine k_seq ?_
        refine r_seq ?_
        refine q_cond ?_ ?_
        · intro hb2
          try simp only [decide_eq_true_eq, decide_eq_false_iff_not, beq_iff_eq, bne_iff_ne, Bool.not_eq_true', Bool.and_eq_true] at hb2
          try simp only [nth_gi, nth_row] at hb2
          refine r_skip ?_
          refine k_seq ?_
          refine r_seq ?_
          refine j_block ?_
          refine r_seq ?_
          refine q_region hG ?_ ?_ -- R12
          · try simp only [and_true, true_and]
            rw [far_len]
            omega
          refine k_seq ?_
          refine r_seq ?_
          refine q_region hG ?_ ?_ -- R13
          · first | trivial | omega | (simp; done) | (simp; omega)
          refine k_seq ?_
          refine r_seq ?_
          refine r_seq ?_
          refine q_region hG ?_ ?_ -- R14
          · first | trivial | omega | (simp; done) | (simp; omega)
          refine k_seq ?_
          refine j_block ?_
          refine j_loop (fun (z : Nat) => (⟨[(4, .l (.z .bool false)), (5, .l (.z (.slice (.slice (.int .i64))) (gD d))), (6, .l (.z (.int .u64) (someV (gD d) x : Int))), (7, .l (.z (.int .u64) (reach (gD d) (someV (gD d) x) : Int))), (9, .l (.z (.slice (.int .i64)) (far (gD d) (someV (gD d) x)))), (78, .l (.z (.slice (.int .i64)) (far (gD d) (someV (gD d) x)))), (79, .l (.z (.int .i64) ((gD d).length : Int))), (80, .l (.z (.int .i64) (w : Int))), (13, .l (.z (.int .i64) (w : Int))), (14, .l (.z (.int .i64) (gi (far (gD d) (someV (gD d) x)) w))), (15, .l (.z (.int .i64) (lst (gD d) (someV (gD d) x) w z))), (85, .l (.z (.slice (.int .i64)) (far (gD d) (someV (gD d) x)))), (86, .l (.z (.int .i64) ((gD d).length : Int))), (87, .l (.z (.int .i64) (z : Int)))], []⟩ : AState)) (fun z => z ≤ (gD d).length) (fun z => (gD d).length - z) 0 ?_ ?_ ?_
          · simp only [ml0, ml1, Nat.reduceLT, Nat.reduceEqDiff, Nat.reduceAdd, Nat.reduceMul, Nat.reduceSub, Nat.reduceLeDiff, Nat.reduceBEq, Nat.reduceBNe, reduceIte, reduceDIte, reduceCtorEq]
            exact ⟨rfl, rfl, by rw [far_len], rfl⟩
          · omega
          · rintro v g2
            try dsimp only at g2
            refine r_seq ?_
            refine q_region hG ?_ ?_ -- R15
            · first | trivial | omega | (simp; done) | (simp; omega)
            refine k_seq ?_
            refine r_seq ?_
            refine q_cond ?_ ?_
            · intro hb3
              try simp only [decide_eq_true_eq, decide_eq_false_iff_not, beq_iff_eq, bne_iff_ne, Bool.not_eq_true', Bool.and_eq_true] at hb3
              try simp only [nth_gi, nth_row] at hb3
              refine r_skip ?_
              refine k_seq ?_
              refine r_seq ?_
              refine j_block ?_
              refine r_seq ?_
              refine q_region hG ?_ ?_ -- R16
              · try simp only [and_true, true_and]
                rw [far_len]
                omega
              refine k_seq ?_
              refine r_seq ?_
              refine q_region hG ?_ ?_ -- R17
              · try simp only [and_true, true_and]
                (repeat' (first | apply And.intro | intro _)) <;> first | assumption | omega | (rename_i h; rw [h]; rfl) | (rename_i h1 h2; rw [h1, h2]; rfl) | exact Nat.le_trans (row_len hv v) (by decide)
              refine k_seq ?_
              refine q_cond ?_ ?_
              · intro hb4
                try simp only [decide_eq_true_eq, decide_eq_false_iff_not, beq_iff_eq, bne_iff_ne, Bool.not_eq_true', Bool.and_eq_true] at hb4
                try simp only [nth_gi, nth_row] at hb4
                refine q_region hG ?_ ?_ -- R18
                · first | trivial | omega | (simp; done) | (simp; omega)
                refine k_block ?_
                refine k_seq ?_
                refine q_region hG ?_ ?_ -- R19
                · first | trivial | omega | (simp; done) | (simp; omega)
                show ∃ z, _
                simp only [ml0, ml1, Nat.reduceLT, Nat.reduceEqDiff, Nat.reduceAdd, Nat.reduceMul, Nat.reduceSub, Nat.reduceLeDiff, Nat.reduceBEq, Nat.reduceBNe, reduceIte, reduceDIte, reduceCtorEq]
                first | exact ⟨v + 1, lst_t hb4, by rw [wi (by omega) (by omega)]; simp, by omega, by omega⟩ | exact ⟨v + 1, lst_f hb4, by rw [wi (by omega) (by omega)]; simp, by omega, by omega⟩
              · intro hb4
                try simp only [decide_eq_true_eq, decide_eq_false_iff_not, beq_eq_false_iff_ne, bne_eq_false_iff_eq, Bool.not_eq_false', Bool.and_eq_false_imp] at hb4
                try simp only [nth_gi, nth_row] at hb4
                refine r_skip ?_
                refine k_block ?_
                refine k_seq ?_
                refine q_region hG ?_ ?_ -- R19
                · first | trivial | omega | (simp; done) | (simp; omega)
                show ∃ z, _
                simp only [ml0, ml1, Nat.reduceLT, Nat.reduceEqDiff, Nat.reduceAdd, Nat.reduceMul, Nat.reduceSub, Nat.reduceLeDiff, Nat.reduceBEq, Nat.reduceBNe, reduceIte, reduceDIte, reduceCtorEq]
                first | exact ⟨v + 1, lst_t hb4, by rw [wi (by omega) (by omega)]; simp, by omega, by omega⟩ | exact ⟨v + 1, lst_f hb4, by rw [wi (by omega) (by omega)]; simp, by omega, by omega⟩
            · intro hb3
              try simp only [decide_eq_true_eq, decide_eq_false_iff_not, beq_eq_false_iff_ne, bne_eq_false_iff_eq, Bool.not_eq_false', Bool.and_eq_false_imp] at hb3
              try simp only [nth_gi, nth_row] at hb3
              refine r_exit ?_
              refine k_seq_exit ?_
              refine k_round_exit ?_
              refine k_block_exit ?_
              refine k_seq ?_
              refine r_cut (fun (z : Unit) => (⟨[(4, .l (.z .bool false)), (5, .l (.z (.slice (.slice (.int .i64))) (gD d))), (6, .l (.z (.int .u64) (someV (gD d) x : Int))), (7, .l (.z (.int .u64) (reach (gD d) (someV (gD d) x) : Int))), (9, .l (.z (.slice (.int .i64)) (far (gD d) (someV (gD d) x)))), (78, .l (.z (.slice (.int .i64)) (far (gD d) (someV (gD d) x)))), (79, .l (.z (.int .i64) ((gD d).length : Int))), (80, .l (.z (.int .i64) (w : Int))), (13, .l (.z (.int .i64) (w : Int))), (14, .l (.z (.int .i64) (gi (far (gD d) (someV (gD d) x)) w))), (15, .l (.z (.int .i64) (lstE (gD d) (someV (gD d) x) w)))], []⟩ : AState)) (fun z => True) ?_ ?_
              · refine j_block ?_
                refine r_seq ?_
                refine q_region hG ?_ ?_ -- R20
                · try simp only [and_true, true_and]
                  omega
                refine k_seq ?_
                refine q_cond ?_ ?_
                · intro hb5
                  try simp only [decide_eq_true_eq, decide_eq_false_iff_not, beq_iff_eq, bne_iff_ne, Bool.not_eq_true', Bool.and_eq_true] at hb5
                  try simp only [nth_gi, nth_row] at hb5
                  refine q_region hG ?_ ?_ -- R21
                  · first | trivial | omega | (simp; done) | (simp; omega)
                  refine k_block ?_
                  show ∃ z, _
                  simp only [ml0, ml1, Nat.reduceLT, Nat.reduceEqDiff, Nat.reduceAdd, Nat.reduceMul, Nat.reduceSub, Nat.reduceLeDiff, Nat.reduceBEq, Nat.reduceBNe, reduceIte, reduceDIte, reduceCtorEq]
                  have hve : v = (gD d).length := by omega
                  have hl := lst_lim hv hs (w := w) (z := v) g2
                  have hbt := bit_eq1 (lt64 hv hs) (v := w) (by omega)
                  first | (rw [beq_iff_eq.2 hb5] at hbt; rw [lstE, if_pos hbt.symm]; done) | (rw [beq_eq_false_iff_ne.2 hb5] at hbt; rw [lstE, if_neg (by rw [← hbt]; decide), ← hve, if_pos hb6, wi (by omega) (by omega)]; done) | (rw [beq_eq_false_iff_ne.2 hb5] at hbt; rw [lstE, if_neg (by rw [← hbt]; decide), ← hve, if_neg hb6]; done)
                · intro hb5
                  try simp only [decide_eq_true_eq, decide_eq_false_iff_not, beq_eq_false_iff_ne, bne_eq_false_iff_eq, Bool.not_eq_false', Bool.and_eq_false_imp] at hb5
                  try simp only [nth_gi, nth_row] at hb5
                  refine r_seq ?_
                  refine q_region hG ?_ ?_ -- R22
                  · first | trivial | omega | (simp; done) | (simp; omega)
                  refine k_seq ?_
                  refine q_cond ?_ ?_
                  · intro hb6
                    try simp only [decide_eq_true_eq, decide_eq_false_iff_not, beq_iff_eq, bne_iff_ne, Bool.not_eq_true', Bool.and_eq_true] at hb6
                    try simp only [nth_gi, nth_row] at hb6
                    refine q_region hG ?_ ?_ -- R23
                    · first | trivial | omega | (simp; done) | (simp; omega)
                    refine k_block ?_
                    show ∃ z, _
                    simp only [ml0, ml1, Nat.reduceLT, Nat.reduceEqDiff, Nat.reduceAdd, Nat.reduceMul, Nat.reduceSub, Nat.reduceLeDiff, Nat.reduceBEq, Nat.reduceBNe, reduceIte, reduceDIte, reduceCtorEq]
                    have hve : v = (gD d).length := by omega
                    have hl := lst_lim hv hs (w := w) (z := v) g2
                    have hbt := bit_eq1 (lt64 hv hs) (v := w) (by omega)
                    first | (rw [beq_iff_eq.2 hb5] at hbt; rw [lstE, if_pos hbt.symm]; done) | (rw [beq_eq_false_iff_ne.2 hb5] at hbt; rw [lstE, if_neg (by rw [← hbt]; decide), ← hve, if_pos hb6, wi (by omega) (by omega)]; done) | (rw [beq_eq_false_iff_ne.2 hb5] at hbt; rw [lstE, if_neg (by rw [← hbt]; decide), ← hve, if_neg hb6]; done)
                  · intro hb6
                    try simp only [decide_eq_true_eq, decide_eq_false_iff_not, beq_eq_false_iff_ne, bne_eq_false_iff_eq, Bool.not_eq_false', Bool.and_eq_false_imp] at hb6
                    try simp only [nth_gi, nth_row] at hb6
                    refine r_skip ?_
                    refine k_block ?_
                    show ∃ z, _
                    simp only [ml0, ml1, Nat.reduceLT, Nat.reduceEqDiff, Nat.reduceAdd, Nat.reduceMul, Nat.reduceSub, Nat.reduceLeDiff, Nat.reduceBEq, Nat.reduceBNe, reduceIte, reduceDIte, reduceCtorEq]
                    have hve : v = (gD d).length := by omega
                    have hl := lst_lim hv hs (w := w) (z := v) g2
                    have hbt := bit_eq1 (lt64 hv hs) (v := w) (by omega)
                    first | (rw [beq_iff_eq.2 hb5] at hbt; rw [lstE, if_pos hbt.symm]; done) | (rw [beq_eq_false_iff_ne.2 hb5] at hbt; rw [lstE, if_neg (by rw [← hbt]; decide), ← hve, if_pos hb6, wi (by omega) (by omega)]; done) | (rw [beq_eq_false_iff_ne.2 hb5] at hbt; rw [lstE, if_neg (by rw [← hbt]; decide), ← hve, if_neg hb6]; done)
              rintro ⟨⟩ -
              refine r_seq ?_
              refine q_region hG ?_ ?_ -- R24
              · try simp only [and_true, true_and]
                (repeat' (first | apply And.intro | intro _)) <;> first | assumption | omega | (rename_i h; rw [h]; rfl) | (rename_i h1 h2; rw [h1, h2]; rfl)
              refine k_seq ?_
              refine q_cond ?_ ?_
              · intro hb7
                exact absurd hb7 (Bool.eq_false_iff.1 (close_step hv hs (by omega)))
              · intro hb7
                try simp only [decide_eq_true_eq, decide_eq_false_iff_not, beq_eq_false_iff_ne, bne_eq_false_iff_eq, Bool.not_eq_false', Bool.and_eq_false_imp] at hb7
                try simp only [nth_gi, nth_row] at hb7
                refine r_skip ?_
                refine k_block ?_
                refine k_seq ?_
                refine q_region hG ?_ ?_ -- R26
                · first | trivial | omega | (simp; done) | (simp; omega)
                show ∃ z, _
                simp only [ml0, ml1, Nat.reduceLT, Nat.reduceEqDiff, Nat.reduceAdd, Nat.reduceMul, Nat.reduceSub, Nat.reduceLeDiff, Nat.reduceBEq, Nat.reduceBNe, reduceIte, reduceDIte, reduceCtorEq]
                exact ⟨w + 1, by rw [wi (by omega) (by omega)]; simp, by omega, by omega⟩
        · intro hb2
          try simp only [decide_eq_true_eq, decide_eq_false_iff_not, beq_eq_false_iff_ne, bne_eq_false_iff_eq, Bool.not_eq_false', Bool.and_eq_false_imp] at hb2
          try simp only [nth_gi, nth_row] at hb2
          refine r_exit ?_
          refine k_seq_exit ?_
          refine k_round_exit ?_
          refine k_block_exit ?_
          refine k_seq ?_
          refine r_seq ?_
          refine q_region hG ?_ ?_ -- R27
          · first | trivial | omega | (simp; done) | (simp; omega)
          refine k_seq ?_
          refine r_ret ?_
          refine ⟨[], ?_⟩
          simp only [hT, tab5, mr0, mr1, mr2, isNilP, Nat.reduceLT, Nat.reduceEqDiff, Nat.reduceAdd, Nat.reduceMul, Nat.reduceSub, Nat.reduceLeDiff, Nat.reduceBEq, Nat.reduceBNe, reduceIte, reduceDIte, reduceCtorEq]

end Go.Proofs.YtcopdikdkkdlfaaDoor
end

section
/- The law GraphCloses: its row, its card. -/
namespace Go.Proofs.YtcopdikdkkdlfaaDoor.graphCloses
open Go Go.Cm Go.Cm.Gr Go.Proofs Go.ChangeShapes Go.WideShapes Go.ChangeAt Go.RowKit Go.Deep Go.Joins
set_option maxRecDepth 100000

theorem own : ownKnob Tryd.prog.godebug = none := by kernel_rfl
theorem rets : Tryd.f5.resultTypes = #[4] := by kernel_rfl
theorem bools : Tryd.prog.underlying 4 = some .bool := by kernel_rfl
def tys : List Ty := [(.st (.pair (.int .u8) (.pair (.slice (.arr 2 (.int .u8))) .bool))), (.int .u16)]
theorem reads : rdAll Tryd.prog tys Tryd.f5.params.toList = true := by kernel_rfl
theorem spec : TrueSpec Rows.graphClosesSpec tys.length := ⟨rfl, fun _ ds h => match ds, h with | [a0, a1], _ => rfl⟩
abbrev vals : Array Value := #[.agg #[.int .u8 0, .slice none 0 0, .bool false], .int .u16 0]
theorem met (os : Os) : laidMet Tryd.prog Rows.graphClosesRow.laid ((lawWorld os).forCall (fun _ _ => 0) ⟨#[], vals, []⟩).memory :=
  laidMet_of_run3 8 (by kernel_rfl) (by kernel_rfl) (by kernel_rfl)
theorem witness (os : Os) {H : Type} (enc : TypeId × Value → H) : ∃ places, DataW.whole enc Tryd.prog ((lawWorld os).forCall (fun _ _ => 0) ⟨#[], vals, []⟩).memory Tryd.f5.params.toList Rows.graphClosesSpec.vars false vals.toList 8 = some ([.agg [.lit (.int .u8 0), .nil, .lit (.bool false)], .lit (.int .u16 0)], [], places) :=
  ⟨[], by kernel_rfl⟩
theorem tabs {W : World} (h : laidMetH Tryd.prog Rows.graphClosesRow.laid W) : Tabs (lawBase W) := by
  have hL : laidMet Tryd.prog Rows.graphClosesRow.laid W := h
  exact fun w hw => ctz_tab hL w hw

theorem lifted (os : Os) (started : os.Started) (H : Type) (enc : TypeId × Value → H) (F : Stop.Interp) :
    ReturnsInHanded {} Tryd.checked os 5 .any ((OpenSpec.ofChange Rows.graphClosesSpec).preRow enc Tryd.prog Tryd.f5 Rows.graphClosesRow.domain false Rows.graphClosesRow.laid) (((OpenSpec.ofChange Rows.graphClosesSpec).at F).post enc Tryd.prog Tryd.f5 false true false false) := by
  obtain ⟨places, hx⟩ := witness os enc
  refine returnsInHanded_of_row (C := Tryd.checked) (s := OpenSpec.ofChange Rows.graphClosesSpec) own started (by kernel_rfl) Tryd.func5
    (witness_row_at (enc := enc) (C := Tryd.checked) false (lawWorld os) vals rfl (by kernel_rfl) (by kernel_rfl) (by kernel_rfl)
      (OpenSpec.preRow_of_cond 8 hx (by kernel_rfl) (fun k hk => by cases hk) (by kernel_rfl) (met os))) ?_
  intro W base args ds gs before hval hW _ _ _ hL _ _
  exact row_contract (ts := tys) (con := cCloses) reads rets bools spec (fun x h => by obtain ⟨x0, x1, ⟨⟩⟩ := x; obtain ⟨h0, h1, -⟩ := h; exact ⟨_, rfl, ⟨draft_of h0, u16_of h1⟩⟩) (valid5 (tabs hL)) hval hW

theorem said : Rows.GraphClosesSaid :=
  OpenClaim.holds_of_cond 5 Tryd.f5 rfl rfl rfl rfl rfl rfl rfl ⟨rfl, rfl, rfl, rfl, rfl⟩ rfl rfl rfl rfl rfl (by kernel_rfl) Tryd.func5 (by kernel_rfl)
    (of_decide_eq_true (by kernel_rfl)) (by unfold Func.isWrapper; first | (rw [if_pos (by decide +kernel)]; kernel_rfl) | (rw [if_neg (by decide +kernel)]; exact ⟨rfl, rfl⟩))
    (fun os started H enc _ F => by rw [OpenClaim.pre_eq_preRow]; exact lifted os started H enc F)

theorem plain (f : FuncId) (fn : Func) (hf : Tryd.pinned.checked.prog.funcNamed "croupier/croupierlaw08.GraphCloses" = some f) (hfn : Tryd.pinned.checked.prog.funcs[f]? = some fn) :
    false = Tryd.pinned.checked.prog.looks [] ∧ ∀ (j : Nat) t, fn.params[j]? = some t → Tryd.pinned.checked.prog.wantsStandIn t = false := by
  obtain rfl : f = 5 := Option.some.inj ((show Tryd.prog.funcNamed "croupier/croupierlaw08.GraphCloses" = some 5 by kernel_rfl).symm.trans hf) |>.symm
  obtain rfl : fn = Tryd.f5 := (Option.some.inj (Tryd.func5.symm.trans hfn)).symm
  refine ⟨by kernel_rfl, fun j t ht => ?_⟩
  have hall : Tryd.f5.params.toList.all (fun t => !Tryd.prog.wantsStandIn t) = true := by kernel_rfl
  have := List.all_eq_true.1 hall t (by simpa using Array.mem_of_getElem? ht)
  exact (by simpa using this : Tryd.prog.wantsStandIn t = false)

theorem card : Rows.GraphClosesCardSaid :=
  Claim7.holds_tied_plain_at .later [] _ _ _ _ said (fun _ h => by cases h) (by kernel_rfl) (fun _ h => by cases h) graphCloses_row_tie rfl ⟨rfl, rfl⟩ (by kernel_rfl) rfl plain (by kernel_rfl)

end Go.Proofs.YtcopdikdkkdlfaaDoor.graphCloses
end
