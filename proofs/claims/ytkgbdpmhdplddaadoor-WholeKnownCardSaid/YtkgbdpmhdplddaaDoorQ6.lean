/- Proved: the law WholeKnown returns true. Conditions: those of its row alone (the package-level variables that the row lists start as the program lays them). -/
import Derived.Test.YtkgbdpmhdplddaaDoorQ3
import Derived.Lib.Repeat
import Derived.Test.YtkgbdpmhdplddaaDoorQ4
import Derived.Test.YtkgbdpmhdplddaaDoorProg
import Derived.Test.YtkgbdpmhdplddaaDoorQ5
import Derived.WalkKit
set_option linter.all false
set_option linter.unusedSimpArgs false
set_option linter.unusedVariables false

section
/- The texts of machine integers. No program is in sight here. -/
namespace Go.Cm
open Go.Proofs

theorem i64_bnd {n : Int} (h : I64 n) : Bnd n 20 := by
  unfold I64 at h
  unfold Bnd
  have : (10 : Nat) ^ 20 = 100000000000000000000 := by decide
  omega

theorem okt_of {n : Int} {k : Nat} (h : Bnd n k) (hk : k ≤ 2000) : OKT (Lib.itoa n) n := by
  have h1 := itoa_facts n
  have h2 := h.digs hk
  exact ⟨by rw [h1.1, if_neg (by omega)], h1.2⟩

theorem okt_i64 {n : Int} (h : I64 n) : OKT (Lib.itoa n) n := okt_of (i64_bnd h) (by decide)

theorem int_okt {s : List UInt8} {n : Int} (h : OKT s n) (hn : I64 n) : intV s = n ∧ intE s = 0 ∧ chk s = 0 := by
  have hb : inI64 n = true := by unfold inI64; unfold I64 at hn; simp [hn.1, hn.2]
  unfold intV intE
  rw [h.c, h.v, hb]
  simp

theorem three_i64 {l : List Int} (h : ∀ x ∈ l, I64 x) {k : Nat} (hk : k < l.length) : I64 (nth (.int .i64) l (k : Int)) := by
  unfold nth
  rw [Int.toNat_natCast, List.getD_eq_getElem?_getD, List.getElem?_eq_getElem hk]
  exact h _ (List.getElem_mem hk)

/-- Comparing, told by the order. -/
theorem cmp_law (n m : Int) : (decide (cmpI n m < 0) = decide (n < m)) ∧ (decide (0 < cmpI n m) = decide (m < n)) ∧ ¬ (cmpI n m < -1) ∧ ¬ (1 < cmpI n m) := by
  unfold cmpI
  split
  · simp [*]; omega
  · split <;> simp [*] <;> omega

theorem i32_add {a b : Int} (ha : -2147483648 ≤ a ∧ a ≤ 2147483647) (hb : -2147483648 ≤ b ∧ b ≤ 2147483647) : I64 (a + b) ∧ I64 (a - b) ∧ I64 (a * b) := by
  unfold I64
  have h1 : a * b ≤ 2147483648 * 2147483648 := by
    have := Int.natAbs_mul a b
    have h2 : a.natAbs * b.natAbs ≤ 2147483648 * 2147483648 := Nat.mul_le_mul (by omega) (by omega)
    omega
  have h3 : -(2147483648 * 2147483648) ≤ a * b := by
    have := Int.natAbs_mul a b
    have h2 : a.natAbs * b.natAbs ≤ 2147483648 * 2147483648 := Nat.mul_le_mul (by omega) (by omega)
    omega
  omega

theorem wi32 {a : Int} (ha : -2147483648 ≤ a ∧ a ≤ 2147483647) : IntKind.i64.wrap a = a := wi (by omega) (by omega)
theorem i32_i64 {a : Int} (ha : -2147483648 ≤ a ∧ a ≤ 2147483647) : I64 a := by unfold I64; omega
theorem I64.w {a : Int} (h : I64 a) : IntKind.i64.wrap a = a := wi h.1 (by have := h.2; omega)
theorem back_list {n m a : Int} (hn : I64 n) (hm : I64 m) (ha : -2147483648 ≤ a ∧ a ≤ 2147483647) : ∀ x ∈ [n, m, IntKind.i64.wrap a], I64 x := by
  intro x hx
  simp only [List.mem_cons, List.not_mem_nil, or_false] at hx
  rcases hx with rfl | rfl | rfl
  · exact hn
  · exact hm
  · rw [wi32 ha]; exact i32_i64 ha

/-- Sums and products of small numbers, as texts. -/
theorem back_law {a b v : Int} (ha : I64 a) (hb : I64 b) (hv : I64 v) : resS (chkAll [Lib.itoa a, Lib.itoa b]) v = Lib.itoa v ∧ resE (chkAll [Lib.itoa a, Lib.itoa b]) v = 0 :=
  (okt_i64 ha).is (okt_i64 hb) (okt_i64 hv) rfl

end Go.Cm
end

section
/- Texts of many nines: what is known of them. No program is in sight here. -/
namespace Go.Cm
open Go.Proofs

theorem repeatL_one (c : UInt8) : ∀ n, Lib.repeatL [c] n = List.replicate n c
  | 0 => rfl
  | n + 1 => by rw [Lib.repeatL, repeatL_one c n]; rfl

theorem len_ne {α : Type} {l : List α} {n : Nat} (h : l.length = n) (hn : 0 < n) : l ≠ [] := fun e => by rw [e] at h; simp at h; omega
theorem pow10_sum (a b c : Nat) (h : c = a + b) : 10 ^ c = 10 ^ a * 10 ^ b := by rw [h, Nat.pow_add]
theorem ten_pow (k : Nat) : (10 : Int) ^ k = ((10 ^ k : Nat) : Int) := by rw [Int.natCast_pow]; rfl
theorem len_cons {α : Type} (x : α) {l : List α} {n m : Nat} (h : l.length = n) (hm : m = n + 1) : (x :: l).length = m := by rw [List.length_cons, h, hm]
theorem len_snoc {α : Type} (x : α) {l : List α} {n m : Nat} (h : l.length = n) (hm : m = n + 1) : (l ++ [x]).length = m := by rw [List.length_append, h, hm]; rfl

/-- As many nines as a text may have, and the least number of so many digits. -/
def nines : List UInt8 := Lib.repeatL [57] 2000
def tens : List UInt8 := [49] ++ Lib.repeatL [48] 1999

theorem numOf_nines : ∀ n : Nat, numOf (List.replicate n 57) + 1 = 10 ^ n
  | 0 => rfl
  | n + 1 => by
    have h := numOf_nines n
    rw [List.replicate_succ', numOf_append, Nat.pow_succ]
    have e : numOf [(57 : UInt8)] = 9 := by decide
    rw [e]
    show numOf (List.replicate n 57) * 10 ^ 1 + 9 + 1 = _
    omega

theorem numOf_zeros : ∀ n : Nat, numOf (List.replicate n 48) = 0
  | 0 => rfl
  | n + 1 => by
    rw [List.replicate_succ', numOf_append, numOf_zeros n]
    decide

theorem dig_rep {c : UInt8} (h : 48 ≤ c.toNat ∧ c.toNat ≤ 57) (n : Nat) : Digits (List.replicate n c) := by
  intro x hx
  rw [(List.mem_replicate.1 hx).2]
  exact h

theorem rep_first (c : UInt8) (n : Nat) (h : 0 < n) : (List.replicate n c).getD 0 0 = c := by
  cases n with
  | zero => omega
  | succ n => rfl

theorem cons_first (c : UInt8) (l : List UInt8) : (c :: l).getD 0 0 = c := rfl

/-- A text of digits. -/
theorem okt_digits {D : List UInt8} (h : Digits D) (hne : D ≠ []) (h0 : D.getD 0 0 ≠ 48) (hl : D.length ≤ 2000) : OKT D (numOf D : Int) := by
  have ht := hasPre_dig h
  have hc := chk_digits ht.2 h hne (.inl h0)
  refine ⟨by rw [hc, if_neg (by omega)], ?_⟩
  unfold numI
  rw [ht.1, ht.2]
  rfl

theorem okt_minus {D : List UInt8} (h : Digits D) (hne : D ≠ []) (h0 : D.getD 0 0 ≠ 48) (hl : D.length ≤ 2000) : OKT (45 :: D) (-(numOf D : Int)) := by
  have ht := hasPre_cons D
  have hc := chk_digits ht.2 h hne (.inl h0)
  refine ⟨by rw [hc, if_neg (by omega)], ?_⟩
  unfold numI
  rw [ht.1, ht.2]
  rfl

theorem nines_eq : nines = List.replicate 2000 57 := repeatL_one 57 2000
theorem tens_eq : tens = 49 :: List.replicate 1999 48 := by unfold tens; rw [repeatL_one]; rfl

theorem nines_facts : Digits nines ∧ nines ≠ [] ∧ nines.getD 0 0 = 57 ∧ nines.length = 2000 ∧ numOf nines + 1 = 10 ^ 2000 := by
  rw [nines_eq]
  have hl : (List.replicate 2000 (57 : UInt8)).length = 2000 := List.length_replicate
  exact ⟨dig_rep (by decide) _, len_ne hl (by decide), rep_first _ _ (by decide), hl, numOf_nines 2000⟩

theorem tens_facts : Digits tens ∧ tens ≠ [] ∧ tens.getD 0 0 = 49 ∧ tens.length = 2000 ∧ numOf tens = 10 ^ 1999 := by
  rw [tens_eq]
  have hl : (List.replicate 1999 (48 : UInt8)).length = 1999 := List.length_replicate
  refine ⟨fun x hx => ?_, List.cons_ne_nil _ _, rfl, len_cons _ hl (by decide), ?_⟩
  · rcases List.mem_cons.1 hx with rfl | hx
    · decide
    · exact dig_rep (c := 48) (by decide) _ x hx
  · have e := numOf_append [49] (List.replicate 1999 48)
    rw [numOf_zeros] at e
    have e1 : numOf [(49 : UInt8)] = 1 := by decide
    rw [e1, Nat.one_mul, hl, Nat.add_zero] at e
    exact e

/-- The value of the nines. -/
def NV : Int := (numOf nines : Int)
theorem okt_nines : OKT nines NV := okt_digits nines_facts.1 nines_facts.2.1 (by rw [nines_facts.2.2.1]; decide) (by rw [nines_facts.2.2.2.1]; decide)
theorem okt_nneg : OKT (45 :: nines) (-NV) := okt_minus nines_facts.1 nines_facts.2.1 (by rw [nines_facts.2.2.1]; decide) (by rw [nines_facts.2.2.2.1]; decide)
theorem okt_tens : OKT tens (numOf tens : Int) := okt_digits tens_facts.1 tens_facts.2.1 (by rw [tens_facts.2.2.1]; decide) (by rw [tens_facts.2.2.2.1]; decide)

theorem chk_bad5 {s D : List UInt8} (ht : trimPre s [45] = D) (h0 : s ≠ [48]) (h : D.all isDig = false) : chk s = 5 := by
  unfold chk
  rw [if_neg h0, ht]
  split
  · rfl
  · first | rfl | rw [if_pos h]

theorem all_not {c : UInt8} {l : List UInt8} (hc : c ∈ l) (h : isDig c = false) : l.all isDig = false := by
  rw [Bool.eq_false_iff]
  intro ha
  have := List.all_eq_true.1 ha c hc
  rw [h] at this; cases this

theorem kc1 : chk nines = 0 := okt_nines.c
theorem kc2 : chk ([45] ++ nines) = 0 := okt_nneg.c
theorem dig_snoc {c : UInt8} (h : 48 ≤ c.toNat ∧ c.toNat ≤ 57) {D : List UInt8} (hD : Digits D) : Digits (D ++ [c]) := by
  intro x hx
  rcases List.mem_append.1 hx with hx | hx
  · exact hD x hx
  · simp only [List.mem_singleton] at hx; rw [hx]; exact h
theorem first_snoc {D : List UInt8} (c : UInt8) (h : D ≠ []) : (D ++ [c]).getD 0 0 = D.getD 0 0 := by
  cases D with
  | nil => exact absurd rfl h
  | cons x l => rfl
theorem kc3 : chk (nines ++ [57]) = 6 := by
  have f := nines_facts
  have hd := dig_snoc (c := 57) (by decide) f.1
  have ht := hasPre_dig hd
  rw [chk_digits ht.2 hd (by simp) (.inl (by rw [first_snoc _ f.2.1, f.2.2.1]; decide)), if_pos (by rw [len_snoc _ f.2.2.2.1 (m := 2001) (by decide)]; decide)]
theorem trim_first {s : List UInt8} (h : s.getD 0 0 ≠ 45) : trimPre s [45] = s := by
  unfold trimPre hasPre
  cases s with
  | nil => rfl
  | cons c l =>
    rw [if_neg]
    intro e
    simp at e
    exact h e
theorem kc4 : chk (nines ++ [120]) = 5 := by
  have f := nines_facts
  have hf : (nines ++ [120]).getD 0 0 = 57 := by rw [first_snoc _ f.2.1, f.2.2.1]
  refine chk_bad5 (trim_first (by rw [hf]; decide)) (fun e => ?_) (all_not (c := 120) (by simp) (by decide))
  rw [e] at hf; exact absurd hf (by decide)
theorem kc5 : chk ([48] ++ nines) = 5 := by
  have f := nines_facts
  have ht : trimPre ([48] ++ nines) [45] = [48] ++ nines := trim_first (by show (48 : UInt8) ≠ 45; decide)
  have h0 : [48] ++ nines ≠ [48] := fun e => f.2.1 (by simpa using e)
  exact chk_first h0 (.inr (by rw [ht]; rfl))
theorem kc6 : chk [45, 45, 49] = 5 ∧ chk [49, 45] = 5 := by decide

theorem short_n (c d : List UInt8) (h : c.length + d.length ≤ 10) : Short (c ++ (nines ++ d)) := by
  unfold Short
  rw [List.length_append, List.length_append, nines_facts.2.2.2.1]
  omega
theorem short_nines : Short nines := okt_nines.short
theorem len_nines : nines.length = 2000 := nines_facts.2.2.2.1

theorem NV_eq : NV + 1 = ((10 ^ 2000 : Nat) : Int) := by
  have := nines_facts.2.2.2.2
  unfold NV
  rw [← this]; rfl
theorem NV_pos : 0 < NV := by
  have h1 := NV_eq
  have h2 : 1 < 10 ^ 2000 := pow10_gt 2000 (by decide)
  generalize 10 ^ 2000 = T at h1 h2
  omega
theorem big_res {a b : List UInt8} {x y v : Int} (ha : OKT a x) (hb : OKT b y) (hv : 10 ^ 2000 ≤ v.natAbs) : resS (chkAll [a, b]) v = [] ∧ resE (chkAll [a, b]) v = 6 := by
  have hc := chkAll_two ha.c hb.c
  have hg := ndig_gt hv
  unfold resS resE
  rw [hc, if_pos rfl, if_pos rfl, if_pos hg, if_pos hg]
  exact ⟨rfl, rfl⟩
theorem bad_res {a b : List UInt8} {e v : Int} (he : chkAll [a, b] = e) (h : e ≠ 0) : resS (chkAll [a, b]) v = [] ∧ resE (chkAll [a, b]) v = e := by
  unfold resS resE
  rw [he, if_neg h, if_neg h]
  exact ⟨rfl, rfl⟩

theorem kn1 : resS (chkAll [nines, [49]]) (numI nines + numI [49]) = [] ∧ resE (chkAll [nines, [49]]) (numI nines + numI [49]) = 6 := by
  refine big_res okt_nines okt1 ?_
  rw [okt_nines.v, okt1.v]
  have h := NV_eq
  have hp := NV_pos
  generalize 10 ^ 2000 = T at h ⊢
  omega
theorem kn2 : resS (chkAll [nines, [45] ++ nines]) (numI nines + numI ([45] ++ nines)) = [48] ∧ resE (chkAll [nines, [45] ++ nines]) (numI nines + numI ([45] ++ nines)) = 0 :=
  okt_nines.is okt_nneg okt0 (by show numI nines + numI (45 :: nines) = 0; rw [okt_nines.v, okt_nneg.v]; omega)
theorem kn3 : resS (chkAll [[45] ++ nines, [49]]) (numI ([45] ++ nines) - numI [49]) = [] ∧ resE (chkAll [[45] ++ nines, [49]]) (numI ([45] ++ nines) - numI [49]) = 6 := by
  refine big_res okt_nneg okt1 ?_
  have e : numI ([45] ++ nines) = -NV := okt_nneg.v
  rw [e, okt1.v]
  have h := NV_eq
  have hp := NV_pos
  generalize 10 ^ 2000 = T at h ⊢
  omega
theorem kn4 : resS (chkAll [nines, [48]]) (numI nines - numI [48]) = nines ∧ resE (chkAll [nines, [48]]) (numI nines - numI [48]) = 0 :=
  okt_nines.is okt0 okt_nines (by rw [okt_nines.v, okt0.v]; omega)
theorem okt10 : OKT [49, 48] 10 := ⟨by decide, by decide⟩
theorem oktm1 : OKT [45, 49] (-1) := ⟨by decide, by decide⟩
theorem kn5 : resS (chkAll [tens, [49, 48]]) (numI tens * numI [49, 48]) = [] ∧ resE (chkAll [tens, [49, 48]]) (numI tens * numI [49, 48]) = 6 := by
  refine big_res okt_tens okt10 ?_
  rw [okt_tens.v, okt10.v, tens_facts.2.2.2.2]
  have h := pow10_sum 1999 1 2000 (by decide)
  rw [h]
  generalize 10 ^ 1999 = T at *
  omega
theorem kn6 : resS (chkAll [nines, [45, 49]]) (numI nines * numI [45, 49]) = [45] ++ nines ∧ resE (chkAll [nines, [45, 49]]) (numI nines * numI [45, 49]) = 0 :=
  okt_nines.is oktm1 okt_nneg (by rw [okt_nines.v, oktm1.v]; omega)

theorem kp1 : powV [49, 48] 1999 = tens ∧ powE [49, 48] 1999 = 0 := by
  refine pow_is (k := 1999) okt10.c (by omega) ?_ (.inl (by rw [okt10.v]; decide)) ?_ okt_tens.c
  · rw [okt10.v]; unfold powN; rw [if_neg (by decide)]; rfl
  · rw [okt10.v, okt_tens.v, tens_facts.2.2.2.2]; exact ten_pow 1999
theorem kp2 : powV [45, 49] 10000 = [49] ∧ powE [45, 49] 10000 = 0 := pow_is (k := 2) (by decide) (by omega) (by decide) (.inl (by decide)) (by decide) (by decide)
theorem kp3 : powV [45, 49] 9999 = [45, 49] ∧ powE [45, 49] 9999 = 0 := pow_is (k := 1) (by decide) (by omega) (by decide) (.inl (by decide)) (by decide) (by decide)
theorem kp4 : powV [48] 10000 = [48] ∧ powE [48] 10000 = 0 := by
  have h0 : Lib.itoa 0 = [48] := (itoa_numI (s := [48]) (by decide)).1
  have hn : ndig 0 ≤ 2000 := ndig_le (k := 2000) (by decide) (pow10_pos 2000)
  have hk : (powN (numI [48]) 10000).toNat = 2 := by decide
  have hv : numI [48] = 0 := by decide
  have hr : powRun 0 2 1 = some 0 := by
    simp only [powRun, Int.mul_zero, if_pos hn]
  have he : powE [48] 10000 = 0 := by
    unfold powE
    rw [if_neg (by decide), if_neg (by omega), hk, hv, hr]
  unfold powV
  rw [he, if_pos rfl, hk, hv, hr]
  exact ⟨h0, rfl⟩
theorem kp5 : powV [48] 10001 = [] ∧ powE [48] 10001 = 2 := pow_err (by decide) (.inr (by omega))
theorem kp6 : powV [49] 4611686018427387904 = [] ∧ powE [49] 4611686018427387904 = 2 := pow_err (by decide) (.inr (by omega))
theorem NV_sq : ¬ NV * NV ≤ 1 := by
  have h := NV_eq
  have h2 : 10 ^ 1 ≤ 10 ^ 2000 := pow10_mono 1 2000 (by decide)
  generalize 10 ^ 2000 = T at h h2
  have h3 : (9 : Int) ≤ NV := by omega
  have := Int.mul_le_mul h3 h3 (by decide) (by omega)
  omega
theorem kp7 : powV nines 0 = [49] ∧ powE nines 0 = 0 := by
  refine pow_is (k := 0) okt_nines.c (by omega) ?_ (.inr (by omega)) ?_ okt1.c
  · rw [okt_nines.v]; unfold powN; rw [if_neg NV_sq]; rfl
  · rw [okt1.v]; exact Int.pow_zero _
theorem two_pow (k m n : Nat) (hm : m = 3 * k) (hn : n = 10 * k) : 10 ^ m ≤ 2 ^ n := by
  rw [hm, hn, Nat.pow_mul, Nat.pow_mul]
  exact Nat.pow_le_pow_left (by decide) k
theorem kp8 : powV [50] 10000 = [] ∧ powE [50] 10000 = 6 := by
  have hv : numI [50] = 2 := by decide
  refine pow_too (k := 10000) (by decide) (by omega) ?_ ?_
  · rw [hv]; unfold powN; rw [if_neg (by decide)]; rfl
  · have e2 : (2 : Int).natAbs = 2 := rfl
    rw [hv, Int.natAbs_pow, e2]
    exact Nat.le_trans (pow10_mono 2000 3000 (by decide)) (two_pow 1000 3000 10000 (by decide) (by decide))
theorem kp9 : powV [120] (-1) = [] ∧ powE [120] (-1) = 5 := by
  have he : powE [120] (-1) = 5 := by unfold powE; rw [if_pos (by decide)]; decide
  unfold powV
  rw [he]; exact ⟨rfl, rfl⟩
theorem kp10 : powV nines 2 = [] ∧ powE nines 2 = 6 := by
  refine pow_too (k := 2) okt_nines.c (by omega) ?_ ?_
  · rw [okt_nines.v]; unfold powN; rw [if_neg NV_sq]; rfl
  · rw [okt_nines.v, Int.natAbs_pow]
    have h := NV_eq
    have h2 : 10 ^ 1 ≤ 10 ^ 2000 := pow10_mono 1 2000 (by decide)
    generalize 10 ^ 2000 = T at h h2 ⊢
    have h3 : NV.natAbs + 1 = T := by omega
    have h4 : 9 ≤ NV.natAbs := by omega
    rw [Nat.pow_two]
    have := Nat.mul_le_mul h4 (Nat.le_refl NV.natAbs)
    omega

theorem kb1 : ∀ v, resS (chkAll [[120], nines ++ [57]]) v = [] ∧ resE (chkAll [[120], nines ++ [57]]) v = 5 := fun _ => bad_res (by simp only [chkAll]; rw [if_neg (by decide)]; decide) (by decide)
theorem kb2 : ∀ v, resS (chkAll [nines ++ [57], [120]]) v = [] ∧ resE (chkAll [nines ++ [57], [120]]) v = 6 := fun _ => bad_res (by simp only [chkAll]; rw [kc3]; rfl) (by decide)
theorem kb3 : ∀ v, resS (chkAll [[49], [49, 47, 50]]) v = [] ∧ resE (chkAll [[49], [49, 47, 50]]) v = 5 := fun _ => bad_res (by decide) (by decide)
theorem kb4 : resS (chkAll [nines, [48]]) (gcdI (numI nines) (numI [48])) = nines ∧ resE (chkAll [nines, [48]]) (gcdI (numI nines) (numI [48])) = 0 :=
  okt_nines.is okt0 okt_nines (by
    rw [okt_nines.v, okt0.v]
    unfold gcdI
    have := NV_pos
    rw [Int.natAbs_zero, Nat.gcd_zero_right]; omega)
theorem kd1 : divVE [120] [48] = 5 ∧ divVE [48] [] = 5 := by decide
theorem ki1 : intV [45, 57, 50, 50, 51, 51, 55, 50, 48, 51, 54, 56, 53, 52, 55, 55, 53, 56, 48, 56] = -9223372036854775808 ∧ intE [45, 57, 50, 50, 51, 51, 55, 50, 48, 51, 54, 56, 53, 52, 55, 55, 53, 56, 48, 56] = 0 ∧ intE [45, 57, 50, 50, 51, 51, 55, 50, 48, 51, 54, 56, 53, 52, 55, 55, 53, 56, 48, 57] = 6 := by decide

/-- The nines but one, and an eight. -/
theorem kd2 : divV1 nines [49] = nines ∧ divV2 nines [49] = [48] ∧ divVE nines [49] = 0 :=
  div_is okt_nines.c okt1.c (by rw [okt1.v]; decide) (by rw [okt_nines.v, okt1.v]; unfold floorQ; simp) (by rw [okt_nines.v, okt1.v, okt0.v]; unfold floorR floorQ; simp) okt_nines.c okt0.c
theorem kd3 : divV1 [48] [45, 51] = [48] ∧ divV2 [48] [45, 51] = [48] ∧ divVE [48] [45, 51] = 0 := div_is (by decide) (by decide) (by decide) (by decide) (by decide) (by decide) (by decide)
theorem rest_eq : List.drop 1 nines ++ [56] = List.replicate 1999 57 ++ [56] := by
  rw [nines_eq, List.drop_replicate]
theorem okt_rest : OKT (List.drop 1 nines ++ [56]) (NV - 1) := by
  rw [rest_eq]
  have hd : Digits (List.replicate 1999 57 ++ [56]) := dig_snoc (by decide) (dig_rep (by decide) _)
  have h := okt_digits hd (len_ne (len_snoc _ List.length_replicate (m := 2000) (by decide)) (by decide)) (by rw [first_snoc _ (len_ne List.length_replicate (by decide)), rep_first _ _ (by decide)]; decide) (by rw [len_snoc _ List.length_replicate (m := 2000) (by decide)]; decide)
  have e : (numOf (List.replicate 1999 57 ++ [56]) : Int) = NV - 1 := by
    rw [numOf_append]
    have h1 := numOf_nines 1999
    have h2 := NV_eq
    have h3 := pow10_sum 1999 1 2000 (by decide)
    have h4 : numOf [(56 : UInt8)] = 8 := by decide
    have h6 : [(56 : UInt8)].length = 1 := rfl
    rw [h4, h6, Nat.pow_one]
    rw [h3, Nat.pow_one] at h2
    generalize 10 ^ 1999 = T at h1 h2
    generalize numOf (List.replicate 1999 57) = m at h1 ⊢
    omega
  rw [← e]; exact h
theorem kd4 : divV1 [45, 49] nines = [45, 49] ∧ divV2 [45, 49] nines = List.drop 1 nines ++ [56] ∧ divVE [45, 49] nines = 0 := by
  have hp := NV_pos
  have hq : floorQ (-1) NV = -1 := by
    unfold floorQ
    rw [if_pos hp]
    have h1 := NV_sq
    have : (-1 : Int) / NV = -1 := by
      rw [Int.ediv_eq_iff_of_pos hp]
      omega
    exact this
  exact div_is oktm1.c okt_nines.c (by rw [okt_nines.v]; omega) (by rw [oktm1.v, okt_nines.v]; exact hq) (by rw [oktm1.v, okt_nines.v, okt_rest.v]; unfold floorR; rw [hq]; omega) oktm1.c okt_rest.c

/-! As they stand in the walk. -/
theorem len_tens : tens.length = 2000 := tens_facts.2.2.2.1
theorem kc2' : chk (45 :: nines) = 0 := kc2
theorem kc5' : chk (48 :: nines) = 5 := kc5
theorem kn2' : resS (chkAll [nines, 45 :: nines]) (numI nines + numI (45 :: nines)) = [48] ∧ resE (chkAll [nines, 45 :: nines]) (numI nines + numI (45 :: nines)) = 0 := kn2
theorem kn3' : resS (chkAll [45 :: nines, [49]]) (numI (45 :: nines) - numI [49]) = [] ∧ resE (chkAll [45 :: nines, [49]]) (numI (45 :: nines) - numI [49]) = 6 := kn3
theorem kn6' : resS (chkAll [nines, [45, 49]]) (numI nines * numI [45, 49]) = 45 :: nines ∧ resE (chkAll [nines, [45, 49]]) (numI nines * numI [45, 49]) = 0 := kn6
theorem take_nines : List.take 2000 nines = nines := List.take_of_length_le (by rw [len_nines]; decide)
theorem kd4' : divV1 [45, 49] nines = [45, 49] ∧ divV2 [45, 49] nines = nines.tail ++ [56] ∧ divVE [45, 49] nines = 0 := by
  have h := kd4
  rw [List.drop_one] at h
  exact h

end Go.Cm
end

section
/- The functions of the package exact, one after the other: each meets its contract. -/
set_option linter.unusedSimpArgs false
set_option linter.unusedVariables false
set_option maxRecDepth 100000
namespace Go.Proofs.YtkgbdpmhdplddaaDoor
open Go Go.Cm Go.Proofs

def tab7 (B : Base) : Tab := { types := [(3, (.int .i64)), (9, .str), (27, (.int .i64))], elems := [], cons := [(8, cWorks), (10, cAddT), (11, cMulT), (12, cIs), (13, cSubT), (14, cDivT), (16, cGcdT), (19, cIntT), (20, cCheck), (21, cRepeat), (22, cFails), (23, cPow), (24, cDivides), (28, cIsF), (45, cFailsF)], hint := [], N := 279, base := B }
theorem good7 {B : Base} (hB : Tabs B) : MGood Tryd.prog (tab7 B) := ⟨⟨types_cons ty3 (types_cons ty9 (types_cons ty27 (types_nil))), elems_nil, by simp only [tab7, ioB]; omega⟩, cons_ok (cals_cons (cal_ok Tryd.func8 (by kernel_rfl) rfl (valid8 hB)) (cals_cons (cal_ok Tryd.func10 (by kernel_rfl) rfl (valid10 hB)) (cals_cons (cal_ok Tryd.func11 (by kernel_rfl) rfl (valid11 hB)) (cals_cons (cal_ok Tryd.func12 (by kernel_rfl) rfl (valid12 hB)) (cals_cons (cal_ok Tryd.func13 (by kernel_rfl) rfl (valid13 hB)) (cals_cons (cal_ok Tryd.func14 (by kernel_rfl) rfl (valid14 hB)) (cals_cons (cal_ok Tryd.func16 (by kernel_rfl) rfl (valid16 hB)) (cals_cons (cal_ok Tryd.func19 (by kernel_rfl) rfl (valid19 hB)) (cals_cons (cal_ok Tryd.func20 (by kernel_rfl) rfl (valid20 hB)) (cals_cons (cal_ok Tryd.func21 (by kernel_rfl) rfl (valid21 hB)) (cals_cons (cal_ok Tryd.func22 (by kernel_rfl) rfl (valid22 hB)) (cals_cons (cal_ok Tryd.func23 (by kernel_rfl) rfl (valid23 hB)) (cals_cons (cal_ok Tryd.func24 (by kernel_rfl) rfl (valid24 hB)) (cals_cons (cal_ok Tryd.func28 (by kernel_rfl) rfl (valid28 hB)) (cals_cons (cal_ok Tryd.func45 (by kernel_rfl) rfl (valid45 hB)) (cals_nil)))))))))))))))), by kernel_rfl⟩
def cKnown : Con := fun l os => match l, os with
  | [], [] => some (True, [.z .bool true], [])
  | _, _ => none

set_option maxHeartbeats 2000000 in
theorem valid7 {B : Base} (hB : Tabs B) : Valid B Tryd.prog 7 cKnown := by
  refine valid_of_J (T := tab7 B) (good7 hB).tab Tryd.func7 rfl rfl rfl ?_
  intro args os C rs os' hc hC
  unfold cKnown at hc
  split at hc
  case h_2 => cases hc
  cases hc
  refine ⟨by simp only [List.length_cons, List.length_nil, tab7]; omega, rfl, ?_⟩
  intro X hP hT hr
  have hG : MGood X.P X.T := by rw [hP, hT]; exact good7 hB
  simp only [Tryd.f7, argEnv, ioList, ioB]
  refine r_seq ?_
  refine r_region hG (by simp only [hT, tab7, List.append_eq, cWorks, cRepeat, cCheck, cFails, cAddT, cFailsF, cIs, cIsF, cSubT, cMulT, cPow, cGcdT, cDivT, cIntT, cDivides, mx0, mx1, mx2, mx3, mx4, mx5, effOp, endCall, callOp, appendOp, sliceLV, Ty.fieldTy, Ty.fieldOf, Nat.reduceLT, Nat.reduceEqDiff, Nat.reduceAdd, Nat.reduceMul, Nat.reduceSub, Nat.reduceLeDiff, Nat.reduceBEq, Nat.reduceBNe, reduceIte, reduceDIte, reduceCtorEq]; rfl) ?_ ?_ -- R0
  · trivial
  refine k_seq ?_
  refine r_seq ?_
  refine r_seq ?_
  refine r_region hG (by simp only [hT, tab7, List.append_eq, cWorks, cRepeat, cCheck, cFails, cAddT, cFailsF, cIs, cIsF, cSubT, cMulT, cPow, cGcdT, cDivT, cIntT, cDivides, mx0, mx1, mx2, mx3, mx4, mx5, effOp, endCall, callOp, appendOp, sliceLV, Ty.fieldTy, Ty.fieldOf, Nat.reduceLT, Nat.reduceEqDiff, Nat.reduceAdd, Nat.reduceMul, Nat.reduceSub, Nat.reduceLeDiff, Nat.reduceBEq, Nat.reduceBNe, reduceIte, reduceDIte, reduceCtorEq]; rfl) ?_ ?_ -- R1
  · trivial
  refine k_seq ?_
  refine r_cond (by simp only [hT, tab7, List.append_eq, mx0, mx1, mx2, mx3, mx4, mx5, effOp, endCall, callOp, appendOp, sliceLV, Ty.fieldTy, Ty.fieldOf, Nat.reduceLT, Nat.reduceEqDiff, Nat.reduceAdd, Nat.reduceMul, Nat.reduceSub, Nat.reduceLeDiff, Nat.reduceBEq, Nat.reduceBNe, reduceIte, reduceDIte, reduceCtorEq]; rfl) ?_ ?_
  · intro hb0
    cases hb0
  · intro hb0
    try simp only [decide_eq_true_eq, decide_eq_false_iff_not, beq_eq_false_iff_ne, bne_eq_false_iff_eq, Bool.not_eq_false', Bool.and_eq_false_imp] at hb0
    refine r_skip ?_
    refine k_seq ?_
    refine r_cut (fun (z : Unit) => (⟨[(1, .l (.z .str nines))], []⟩ : AState)) (fun z => True) ?_ ?_
    · refine r_region hG (by simp only [hT, tab7, List.append_eq, cWorks, cRepeat, cCheck, cFails, cAddT, cFailsF, cIs, cIsF, cSubT, cMulT, cPow, cGcdT, cDivT, cIntT, cDivides, mx0, mx1, mx2, mx3, mx4, mx5, effOp, endCall, callOp, appendOp, sliceLV, Ty.fieldTy, Ty.fieldOf, Nat.reduceLT, Nat.reduceEqDiff, Nat.reduceAdd, Nat.reduceMul, Nat.reduceSub, Nat.reduceLeDiff, Nat.reduceBEq, Nat.reduceBNe, reduceIte, reduceDIte, reduceCtorEq]; rfl) ?_ ?_ -- R3
      · try simp only [and_true, true_and]
        exact ⟨by decide, by decide, by decide⟩
      show ∃ z, _
      simp only [ml0, ml1, Nat.reduceLT, Nat.reduceEqDiff, Nat.reduceAdd, Nat.reduceMul, Nat.reduceSub, Nat.reduceLeDiff, Nat.reduceBEq, Nat.reduceBNe, reduceIte, reduceDIte, reduceCtorEq]
      rfl
    rintro ⟨⟩ hu
    try dsimp only at hu
    refine r_cut (fun (z : Unit) => (⟨[(1, .l (.z .str nines)), (2, .l (.z .str tens))], []⟩ : AState)) (fun z => True) ?_ ?_
    · refine r_region hG (by simp only [hT, tab7, List.append_eq, cWorks, cRepeat, cCheck, cFails, cAddT, cFailsF, cIs, cIsF, cSubT, cMulT, cPow, cGcdT, cDivT, cIntT, cDivides, mx0, mx1, mx2, mx3, mx4, mx5, effOp, endCall, callOp, appendOp, sliceLV, Ty.fieldTy, Ty.fieldOf, Nat.reduceLT, Nat.reduceEqDiff, Nat.reduceAdd, Nat.reduceMul, Nat.reduceSub, Nat.reduceLeDiff, Nat.reduceBEq, Nat.reduceBNe, reduceIte, reduceDIte, reduceCtorEq]; rfl) ?_ ?_ -- R4
      · try simp only [and_true, true_and]
        exact ⟨⟨by decide, by decide, by decide⟩, by rw [repeatL_one, List.length_replicate]; decide⟩
      show ∃ z, _
      simp only [ml0, ml1, Nat.reduceLT, Nat.reduceEqDiff, Nat.reduceAdd, Nat.reduceMul, Nat.reduceSub, Nat.reduceLeDiff, Nat.reduceBEq, Nat.reduceBNe, reduceIte, reduceDIte, reduceCtorEq]
      rfl
    rintro ⟨⟩ hu
    try dsimp only at hu
    refine r_cut (fun (z : Unit) => (⟨[(1, .l (.z .str nines)), (2, .l (.z .str tens)), (3, .l (.z .bool true))], []⟩ : AState)) (fun z => True) ?_ ?_
    · refine r_region hG (by simp only [hT, tab7, List.append_eq, cWorks, cRepeat, cCheck, cFails, cAddT, cFailsF, cIs, cIsF, cSubT, cMulT, cPow, cGcdT, cDivT, cIntT, cDivides, mx0, mx1, mx2, mx3, mx4, mx5, effOp, endCall, callOp, appendOp, sliceLV, Ty.fieldTy, Ty.fieldOf, Nat.reduceLT, Nat.reduceEqDiff, Nat.reduceAdd, Nat.reduceMul, Nat.reduceSub, Nat.reduceLeDiff, Nat.reduceBEq, Nat.reduceBNe, reduceIte, reduceDIte, reduceCtorEq]; rfl) ?_ ?_ -- R5
      · try simp only [and_true, true_and]
        simp [kc1, kc2', kc3, kc4, kc5', kc6.1, kc6.2, Short, len_nines, len_tens, maxLen, I64]
      show ∃ z, _
      simp only [ml0, ml1, Nat.reduceLT, Nat.reduceEqDiff, Nat.reduceAdd, Nat.reduceMul, Nat.reduceSub, Nat.reduceLeDiff, Nat.reduceBEq, Nat.reduceBNe, reduceIte, reduceDIte, reduceCtorEq]
      simp [kc1, kc2', kc3, kc4, kc5', kc6.1, kc6.2, Short, len_nines, len_tens, maxLen, I64]
    rintro ⟨⟩ hu
    try dsimp only at hu
    refine r_cut (fun (z : Unit) => (⟨[(1, .l (.z .str nines)), (2, .l (.z .str tens)), (3, .l (.z .bool true))], []⟩ : AState)) (fun z => True) ?_ ?_
    · refine r_region hG (by simp only [hT, tab7, List.append_eq, cWorks, cRepeat, cCheck, cFails, cAddT, cFailsF, cIs, cIsF, cSubT, cMulT, cPow, cGcdT, cDivT, cIntT, cDivides, mx0, mx1, mx2, mx3, mx4, mx5, effOp, endCall, callOp, appendOp, sliceLV, Ty.fieldTy, Ty.fieldOf, Nat.reduceLT, Nat.reduceEqDiff, Nat.reduceAdd, Nat.reduceMul, Nat.reduceSub, Nat.reduceLeDiff, Nat.reduceBEq, Nat.reduceBNe, reduceIte, reduceDIte, reduceCtorEq]; rfl) ?_ ?_ -- R6
      · try simp only [and_true, true_and]
        simp [kn1.1, kn1.2, kn2'.1, kn2'.2, kn3'.1, kn3'.2, kn4.1, kn4.2, kn5.1, kn5.2, kn6'.1, kn6'.2, Short, len_nines, len_tens, maxLen, I64]
      show ∃ z, _
      simp only [ml0, ml1, Nat.reduceLT, Nat.reduceEqDiff, Nat.reduceAdd, Nat.reduceMul, Nat.reduceSub, Nat.reduceLeDiff, Nat.reduceBEq, Nat.reduceBNe, reduceIte, reduceDIte, reduceCtorEq]
      simp [kn1.1, kn1.2, kn2'.1, kn2'.2, kn3'.1, kn3'.2, kn4.1, kn4.2, kn5.1, kn5.2, kn6'.1, kn6'.2, Short, len_nines, len_tens, maxLen, I64]
    rintro ⟨⟩ hu
    try dsimp only at hu
    refine r_cut (fun (z : Unit) => (⟨[(1, .l (.z .str nines)), (2, .l (.z .str tens)), (3, .l (.z .bool true))], []⟩ : AState)) (fun z => True) ?_ ?_
    · refine r_region hG (by simp only [hT, tab7, List.append_eq, cWorks, cRepeat, cCheck, cFails, cAddT, cFailsF, cIs, cIsF, cSubT, cMulT, cPow, cGcdT, cDivT, cIntT, cDivides, mx0, mx1, mx2, mx3, mx4, mx5, effOp, endCall, callOp, appendOp, sliceLV, Ty.fieldTy, Ty.fieldOf, Nat.reduceLT, Nat.reduceEqDiff, Nat.reduceAdd, Nat.reduceMul, Nat.reduceSub, Nat.reduceLeDiff, Nat.reduceBEq, Nat.reduceBNe, reduceIte, reduceDIte, reduceCtorEq]; rfl) ?_ ?_ -- R7
      · try simp only [and_true, true_and]
        simp [kp1.1, kp1.2, kp2.1, kp2.2, kp3.1, kp3.2, kp4.1, kp4.2, kp5.1, kp5.2, kp6.1, kp6.2, kp7.1, kp7.2, kp8.1, kp8.2, kp9.1, kp9.2, kp10.1, kp10.2, Short, len_nines, len_tens, maxLen, I64]
      show ∃ z, _
      simp only [ml0, ml1, Nat.reduceLT, Nat.reduceEqDiff, Nat.reduceAdd, Nat.reduceMul, Nat.reduceSub, Nat.reduceLeDiff, Nat.reduceBEq, Nat.reduceBNe, reduceIte, reduceDIte, reduceCtorEq]
      simp [kp1.1, kp1.2, kp2.1, kp2.2, kp3.1, kp3.2, kp4.1, kp4.2, kp5.1, kp5.2, kp6.1, kp6.2, kp7.1, kp7.2, kp8.1, kp8.2, kp9.1, kp9.2, kp10.1, kp10.2, Short, len_nines, len_tens, maxLen, I64]
    rintro ⟨⟩ hu
    try dsimp only at hu
    refine r_cut (fun (z : Unit) => (⟨[(1, .l (.z .str nines)), (2, .l (.z .str tens)), (3, .l (.z .bool true))], []⟩ : AState)) (fun z => True) ?_ ?_
    · refine r_region hG (by simp only [hT, tab7, List.append_eq, cWorks, cRepeat, cCheck, cFails, cAddT, cFailsF, cIs, cIsF, cSubT, cMulT, cPow, cGcdT, cDivT, cIntT, cDivides, mx0, mx1, mx2, mx3, mx4, mx5, effOp, endCall, callOp, appendOp, sliceLV, Ty.fieldTy, Ty.fieldOf, Nat.reduceLT, Nat.reduceEqDiff, Nat.reduceAdd, Nat.reduceMul, Nat.reduceSub, Nat.reduceLeDiff, Nat.reduceBEq, Nat.reduceBNe, reduceIte, reduceDIte, reduceCtorEq]; rfl) ?_ ?_ -- R8
      · try simp only [and_true, true_and]
        simp [(kb1 _).1, (kb1 _).2, (kb2 _).1, (kb2 _).2, (kb3 _).1, (kb3 _).2, kb4.1, kb4.2, Short, len_nines, len_tens, maxLen, I64]
      show ∃ z, _
      simp only [ml0, ml1, Nat.reduceLT, Nat.reduceEqDiff, Nat.reduceAdd, Nat.reduceMul, Nat.reduceSub, Nat.reduceLeDiff, Nat.reduceBEq, Nat.reduceBNe, reduceIte, reduceDIte, reduceCtorEq]
      simp [(kb1 _).1, (kb1 _).2, (kb2 _).1, (kb2 _).2, (kb3 _).1, (kb3 _).2, kb4.1, kb4.2, Short, len_nines, len_tens, maxLen, I64]
    rintro ⟨⟩ hu
    try dsimp only at hu
    refine r_seq ?_
    refine r_region hG (by simp only [hT, tab7, List.append_eq, cWorks, cRepeat, cCheck, cFails, cAddT, cFailsF, cIs, cIsF, cSubT, cMulT, cPow, cGcdT, cDivT, cIntT, cDivides, mx0, mx1, mx2, mx3, mx4, mx5, effOp, endCall, callOp, appendOp, sliceLV, Ty.fieldTy, Ty.fieldOf, Nat.reduceLT, Nat.reduceEqDiff, Nat.reduceAdd, Nat.reduceMul, Nat.reduceSub, Nat.reduceLeDiff, Nat.reduceBEq, Nat.reduceBNe, reduceIte, reduceDIte, reduceCtorEq]; rfl) ?_ ?_ -- R9
    · try simp only [and_true, true_and]
      simp [take_nines, kd1.1, kd1.2, ki1.1, ki1.2.1, ki1.2.2, kd2.1, kd2.2.1, kd2.2.2, kd3.1, kd3.2.1, kd3.2.2, kd4'.1, kd4'.2.1, kd4'.2.2, Short, len_nines, len_tens, maxLen, I64]
    refine k_seq ?_
    refine r_seq ?_
    refine r_region hG (by simp only [hT, tab7, List.append_eq, cWorks, cRepeat, cCheck, cFails, cAddT, cFailsF, cIs, cIsF, cSubT, cMulT, cPow, cGcdT, cDivT, cIntT, cDivides, mx0, mx1, mx2, mx3, mx4, mx5, effOp, endCall, callOp, appendOp, sliceLV, Ty.fieldTy, Ty.fieldOf, Nat.reduceLT, Nat.reduceEqDiff, Nat.reduceAdd, Nat.reduceMul, Nat.reduceSub, Nat.reduceLeDiff, Nat.reduceBEq, Nat.reduceBNe, reduceIte, reduceDIte, reduceCtorEq]; rfl) ?_ ?_ -- R10
    · try simp only [and_true, true_and]
      simp [take_nines, kd1.1, kd1.2, ki1.1, ki1.2.1, ki1.2.2, kd2.1, kd2.2.1, kd2.2.2, kd3.1, kd3.2.1, kd3.2.2, kd4'.1, kd4'.2.1, kd4'.2.2, Short, len_nines, len_tens, maxLen, I64]
    refine k_seq ?_
    refine r_seq ?_
    refine r_region hG (by simp only [hT, tab7, List.append_eq, cWorks, cRepeat, cCheck, cFails, cAddT, cFailsF, cIs, cIsF, cSubT, cMulT, cPow, cGcdT, cDivT, cIntT, cDivides, mx0, mx1, mx2, mx3, mx4, mx5, effOp, endCall, callOp, appendOp, sliceLV, Ty.fieldTy, Ty.fieldOf, Nat.reduceLT, Nat.reduceEqDiff, Nat.reduceAdd, Nat.reduceMul, Nat.reduceSub, Nat.reduceLeDiff, Nat.reduceBEq, Nat.reduceBNe, reduceIte, reduceDIte, reduceCtorEq]; rfl) ?_ ?_ -- R11
    · try simp only [and_true, true_and]
      simp [take_nines, kd1.1, kd1.2, ki1.1, ki1.2.1, ki1.2.2, kd2.1, kd2.2.1, kd2.2.2, kd3.1, kd3.2.1, kd3.2.2, kd4'.1, kd4'.2.1, kd4'.2.2, Short, len_nines, len_tens, maxLen, I64]
    refine k_seq ?_
    refine r_seq ?_
    refine r_region hG (by simp only [hT, tab7, List.append_eq, cWorks, cRepeat, cCheck, cFails, cAddT, cFailsF, cIs, cIsF, cSubT, cMulT, cPow, cGcdT, cDivT, cIntT, cDivides, mx0, mx1, mx2, mx3, mx4, mx5, effOp, endCall, callOp, appendOp, sliceLV, Ty.fieldTy, Ty.fieldOf, Nat.reduceLT, Nat.reduceEqDiff, Nat.reduceAdd, Nat.reduceMul, Nat.reduceSub, Nat.reduceLeDiff, Nat.reduceBEq, Nat.reduceBNe, reduceIte, reduceDIte, reduceCtorEq]; rfl) ?_ ?_ -- R12
    · try simp only [and_true, true_and]
      simp [take_nines, kd1.1, kd1.2, ki1.1, ki1.2.1, ki1.2.2, kd2.1, kd2.2.1, kd2.2.2, kd3.1, kd3.2.1, kd3.2.2, kd4'.1, kd4'.2.1, kd4'.2.2, Short, len_nines, len_tens, maxLen, I64]
    refine k_seq ?_
    refine r_seq ?_
    refine r_region hG (by simp only [hT, tab7, List.append_eq, cWorks, cRepeat, cCheck, cFails, cAddT, cFailsF, cIs, cIsF, cSubT, cMulT, cPow, cGcdT, cDivT, cIntT, cDivides, mx0, mx1, mx2, mx3, mx4, mx5, effOp, endCall, callOp, appendOp, sliceLV, Ty.fieldTy, Ty.fieldOf, Nat.reduceLT, Nat.reduceEqDiff, Nat.reduceAdd, Nat.reduceMul, Nat.reduceSub, Nat.reduceLeDiff, Nat.reduceBEq, Nat.reduceBNe, reduceIte, reduceDIte, reduceCtorEq]; rfl) ?_ ?_ -- R13
    · try simp only [and_true, true_and]
      simp [take_nines, kd1.1, kd1.2, ki1.1, ki1.2.1, ki1.2.2, kd2.1, kd2.2.1, kd2.2.2, kd3.1, kd3.2.1, kd3.2.2, kd4'.1, kd4'.2.1, kd4'.2.2, Short, len_nines, len_tens, maxLen, I64]
    refine k_seq ?_
    refine r_ret ?_
    refine ⟨[], ?_⟩
    simp only [hT, tab7, mr0, mr1, mr2, Nat.reduceLT, Nat.reduceEqDiff, Nat.reduceAdd, Nat.reduceMul, Nat.reduceSub, Nat.reduceLeDiff, Nat.reduceBEq, Nat.reduceBNe, reduceIte, reduceDIte, reduceCtorEq]
    simp [take_nines, kd1.1, kd1.2, ki1.1, ki1.2.1, ki1.2.2, kd2.1, kd2.2.1, kd2.2.2, kd3.1, kd3.2.1, kd3.2.2, kd4'.1, kd4'.2.1, kd4'.2.2, Short, len_nines, len_tens, maxLen, I64]

end Go.Proofs.YtkgbdpmhdplddaaDoor
end

section
/- The law WholeKnown: its row, its card. -/
namespace Go.Proofs.YtkgbdpmhdplddaaDoor.wholeKnown
open Go Go.Cm Go.Proofs Go.ChangeShapes Go.WideShapes Go.ChangeAt Go.RowKit Go.Deep Go.Joins
set_option maxRecDepth 100000

theorem own : ownKnob Tryd.prog.godebug = none := by kernel_rfl
theorem rets : Tryd.f7.resultTypes = #[4] := by kernel_rfl
theorem bools : Tryd.prog.underlying 4 = some .bool := by kernel_rfl
def tys : List Ty := []
theorem reads : rdAll Tryd.prog tys Tryd.f7.params.toList = true := by kernel_rfl
theorem spec : TrueSpec Rows.wholeKnownSpec tys.length := ⟨rfl, fun _ ds h => match ds, h with | [], _ => rfl⟩
abbrev vals : Array Value := #[]
theorem met (os : Os) : laidMet Tryd.prog Rows.wholeKnownRow.laid ((lawWorld os).forCall (fun _ _ => 0) ⟨#[], vals, []⟩).memory :=
  laidMet_of_run3 8 (by kernel_rfl) (by kernel_rfl) (by kernel_rfl)
theorem witness (os : Os) {H : Type} (enc : TypeId × Value → H) : ∃ places, DataW.whole enc Tryd.prog ((lawWorld os).forCall (fun _ _ => 0) ⟨#[], vals, []⟩).memory Tryd.f7.params.toList Rows.wholeKnownSpec.vars false vals.toList 8 = some ([], [], places) :=
  ⟨[], by kernel_rfl⟩
theorem tabs {W : World} (h : laidMetH Tryd.prog Rows.wholeKnownRow.laid W) : Tabs (lawBase W) := by
  have hL : laidMet Tryd.prog Rows.wholeKnownRow.laid W := h
  exact fun w hw => pow_tab (laidMet.tail (laidMet.tail hL)) w hw

theorem lifted (os : Os) (started : os.Started) (H : Type) (enc : TypeId × Value → H) (F : Stop.Interp) :
    ReturnsInHanded {} Tryd.checked os 7 .any ((OpenSpec.ofChange Rows.wholeKnownSpec).preRow enc Tryd.prog Tryd.f7 Rows.wholeKnownRow.domain false Rows.wholeKnownRow.laid) (((OpenSpec.ofChange Rows.wholeKnownSpec).at F).post enc Tryd.prog Tryd.f7 false true false false) := by
  obtain ⟨places, hx⟩ := witness os enc
  refine returnsInHanded_of_row (C := Tryd.checked) (s := OpenSpec.ofChange Rows.wholeKnownSpec) own started (by kernel_rfl) Tryd.func7
    (witness_row_at (enc := enc) (C := Tryd.checked) false (lawWorld os) vals rfl (by kernel_rfl) (by kernel_rfl) (by kernel_rfl)
      (OpenSpec.preRow_of_cond 8 hx (by kernel_rfl) (fun k hk => by cases hk) (by kernel_rfl) (met os))) ?_
  intro W base args ds gs before hval hW _ _ _ hL _ _
  exact row_contract (ts := tys) (con := cKnown) reads rets bools spec (fun x h => by obtain ⟨⟨⟩⟩ := x; obtain ⟨-⟩ := h; exact ⟨_, rfl, trivial⟩) (valid7 (tabs hL)) hval hW

theorem said : Rows.WholeKnownSaid :=
  OpenClaim.holds_of_cond 7 Tryd.f7 rfl rfl rfl rfl rfl rfl rfl ⟨rfl, rfl, rfl, rfl, rfl⟩ rfl rfl rfl rfl rfl (by kernel_rfl) Tryd.func7 (by kernel_rfl)
    (of_decide_eq_true (by kernel_rfl)) (by unfold Func.isWrapper; first | (rw [if_pos (by decide +kernel)]; kernel_rfl) | (rw [if_neg (by decide +kernel)]; exact ⟨rfl, rfl⟩))
    (fun os started H enc _ F => by rw [OpenClaim.pre_eq_preRow]; exact lifted os started H enc F)

theorem plain (f : FuncId) (fn : Func) (hf : Tryd.pinned.checked.prog.funcNamed "croupier/croupierlaw01.WholeKnown" = some f) (hfn : Tryd.pinned.checked.prog.funcs[f]? = some fn) :
    true = Tryd.pinned.checked.prog.looks [] ∧ ∀ (j : Nat) t, fn.params[j]? = some t → Tryd.pinned.checked.prog.wantsStandIn t = false := by
  obtain rfl : f = 7 := Option.some.inj ((show Tryd.prog.funcNamed "croupier/croupierlaw01.WholeKnown" = some 7 by kernel_rfl).symm.trans hf) |>.symm
  obtain rfl : fn = Tryd.f7 := (Option.some.inj (Tryd.func7.symm.trans hfn)).symm
  refine ⟨by kernel_rfl, fun j t ht => ?_⟩
  have hall : Tryd.f7.params.toList.all (fun t => !Tryd.prog.wantsStandIn t) = true := by kernel_rfl
  have := List.all_eq_true.1 hall t (by simpa using Array.mem_of_getElem? ht)
  exact (by simpa using this : Tryd.prog.wantsStandIn t = false)

theorem card : Rows.WholeKnownCardSaid :=
  Claim7.holds_tied_plain_at .later [] _ _ _ _ said (fun _ h => by cases h) (by kernel_rfl) (fun _ h => by cases h) wholeKnown_row_tie rfl ⟨rfl, rfl⟩ (by kernel_rfl) rfl plain (by kernel_rfl)

end Go.Proofs.YtkgbdpmhdplddaaDoor.wholeKnown
end
