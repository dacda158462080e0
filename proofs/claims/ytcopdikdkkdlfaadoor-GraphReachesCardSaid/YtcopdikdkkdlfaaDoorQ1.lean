/- Merged by a program out of several texts. -/
import Derived.WalkKit
import Derived.WalkSpells
import Derived.RangeFuncFrom
import Derived.RangeFuncLeaves
import Derived.OrdersIn
import Derived.TacticsIn
import Derived.Deep.LoopGhost
import Derived.Deep.MidRow
import Derived.Laws.IdiomStrings
import Derived.Great.BuildSlice
set_option linter.all false
set_option linter.unusedSimpArgs false
set_option linter.unusedVariables false

section
/- Directed graphs as lists of rows: walks, what is reached, distances. No program is in sight. -/
namespace Go.Cm.Gr

abbrev Gph := List (List Int)

/-- Does the row go up, from a number on, below a bound? -/
def okRow (n : Nat) : Int → List Int → Bool
  | _, [] => true
  | l, w :: r => decide (l < w) && decide (w < (n : Int)) && okRow n w r

def okG (g : Gph) : Bool := decide (1 ≤ g.length) && decide (g.length ≤ 32) && g.all (okRow g.length (-1))

def row (g : Gph) (v : Nat) : List Int := g.getD v []

def E (g : Gph) (v w : Nat) : Prop := (w : Int) ∈ row g v

theorem okRow_mem {n : Nat} : ∀ {r : List Int} {l : Int}, okRow n l r = true → ∀ w ∈ r, l < w ∧ w < (n : Int)
  | [], _, _, w, h => by simp at h
  | x :: r, l, h, w, hw => by
    simp only [okRow, Bool.and_eq_true, decide_eq_true_eq] at h
    rcases List.mem_cons.1 hw with rfl | hw
    · exact h.1
    · have := okRow_mem h.2 w hw; omega

theorem okRow_nodup {n : Nat} : ∀ {r : List Int} {l : Int}, okRow n l r = true → r.Pairwise (· < ·)
  | [], _, _ => List.Pairwise.nil
  | x :: r, l, h => by
    simp only [okRow, Bool.and_eq_true, decide_eq_true_eq] at h
    exact List.pairwise_cons.2 ⟨fun w hw => (okRow_mem h.2 w hw).1, okRow_nodup h.2⟩

theorem okRow_snoc {n : Nat} : ∀ {r : List Int} {l w : Int}, okRow n l (r ++ [w]) = (okRow n l r && decide (r.getLastD l < w) && decide (w < (n : Int)))
  | [], l, w => by simp [okRow]
  | x :: r, l, w => by
    simp only [List.cons_append, okRow, okRow_snoc (r := r)]
    have : (x :: r).getLastD l = r.getLastD x := by simp [List.getLastD_eq_getLast?, List.getLast?_cons]
    rw [this]; simp only [Bool.and_assoc]

structure Val (g : Gph) : Prop where
  one : 1 ≤ g.length
  most : g.length ≤ 32
  rows : ∀ r ∈ g, okRow g.length (-1) r = true

theorem okG_iff {g : Gph} : okG g = true ↔ Val g := by
  simp only [okG, Bool.and_eq_true, decide_eq_true_eq, List.all_eq_true]
  exact ⟨fun h => ⟨h.1.1, h.1.2, h.2⟩, fun h => ⟨⟨h.1, h.2⟩, h.3⟩⟩

theorem row_mem {g : Gph} {v : Nat} (h : row g v ≠ []) : v < g.length ∧ row g v ∈ g := by
  unfold row at *
  by_cases hv : v < g.length
  · rw [List.getD_eq_getElem?_getD, List.getElem?_eq_getElem hv] at *
    exact ⟨hv, List.getElem_mem hv⟩
  · exact absurd (by simp [List.getD_eq_getElem?_getD, List.getElem?_eq_none (Nat.le_of_not_lt hv)]) h

theorem Val.okr {g : Gph} (h : Val g) (v : Nat) : okRow g.length (-1) (row g v) = true := by
  by_cases hr : row g v = []
  · rw [hr]; rfl
  · exact h.rows _ (row_mem hr).2

theorem Val.mem {g : Gph} (h : Val g) {v : Nat} {w : Int} (hw : w ∈ row g v) : v < g.length ∧ 0 ≤ w ∧ w < g.length := by
  have := okRow_mem (h.okr v) w hw
  exact ⟨(row_mem (fun e => by rw [e] at hw; simp at hw)).1, by omega, this.2⟩

theorem Val.lt {g : Gph} (h : Val g) {v w : Nat} (hw : E g v w) : v < g.length ∧ w < g.length := by
  have := h.mem hw; omega

theorem E_of {g : Gph} {v : Nat} {w : Int} (hw : w ∈ row g v) (h0 : 0 ≤ w) : E g v w.toNat := by
  unfold E; rwa [Int.toNat_of_nonneg h0]

instance (g : Gph) (v w : Nat) : Decidable (E g v w) := inferInstanceAs (Decidable (_ ∈ _))

/-- What is reached. -/
inductive R (g : Gph) : Nat → Nat → Prop
  | refl (v : Nat) : R g v v
  | tail {u v w : Nat} : R g u v → E g v w → R g u w

theorem R.one {g : Gph} {v w : Nat} (h : E g v w) : R g v w := .tail (.refl v) h
theorem R.trans {g : Gph} {u v w : Nat} (h : R g u v) (k : R g v w) : R g u w := by
  induction k with
  | refl => exact h
  | tail _ e ih => exact .tail ih e
theorem R.closed {g : Gph} {p : Nat → Prop} (hp : ∀ v w, p v → E g v w → p w) {v w : Nat} (hv : p v) (h : R g v w) : p w := by
  induction h with
  | refl => exact hv
  | tail _ e ih => exact hp _ _ ih e
theorem R.lt {g : Gph} (hg : Val g) {v w : Nat} (h : R g v w) (hv : v < g.length) : w < g.length :=
  R.closed (p := fun w => w < g.length) (fun _ _ _ e => (hg.lt e).2) hv h

/-- Walks of a length from a set. -/
def Wk (g : Gph) (s : Nat) : Nat → Nat → Prop
  | 0, v => s.testBit v = true
  | k + 1, w => ∃ v, Wk g s k v ∧ E g v w

theorem Wk_R {g : Gph} {s : Nat} : ∀ {k w : Nat}, Wk g s k w → ∃ v, s.testBit v = true ∧ R g v w
  | 0, w, h => ⟨w, h, .refl w⟩
  | k + 1, w, ⟨v, h, e⟩ => by obtain ⟨u, hu, hr⟩ := Wk_R h; exact ⟨u, hu, .tail hr e⟩
theorem R_Wk {g : Gph} {s v w : Nat} (hv : s.testBit v = true) (h : R g v w) : ∃ k, Wk g s k w := by
  induction h with
  | refl => exact ⟨0, hv⟩
  | tail _ e ih => obtain ⟨k, hk⟩ := ih; exact ⟨k + 1, _, hk, e⟩

theorem Wk.lt {g : Gph} (hg : Val g) {s : Nat} (hs : s < 2 ^ g.length) : ∀ {k w : Nat}, Wk g s k w → w < g.length
  | 0, w, h => by
    rcases Nat.lt_or_ge w g.length with h' | h'
    · exact h'
    · have := Nat.testBit_lt_two_pow (Nat.lt_of_lt_of_le hs (Nat.pow_le_pow_right (by omega) h')); rw [show s.testBit w = true from h] at this; cases this
  | k + 1, w, ⟨v, _, e⟩ => (hg.lt e).2

theorem testBit_lt {s n w : Nat} (hs : s < 2 ^ n) (h : s.testBit w = true) : w < n := by
  rcases Nat.lt_or_ge w n with h' | h'
  · exact h'
  · rw [Nat.testBit_lt_two_pow (Nat.lt_of_lt_of_le hs (Nat.pow_le_pow_right (by omega) h'))] at h; cases h

/-- The least length of a walk. -/
def Dist (g : Gph) (s k w : Nat) : Prop := Wk g s k w ∧ ∀ j, j < k → ¬ Wk g s j w

theorem dist_of {g : Gph} {s : Nat} : ∀ {k w : Nat}, Wk g s k w → ∃ j, j ≤ k ∧ Dist g s j w := by
  intro k
  induction k using Nat.strongRecOn with
  | _ k ih =>
    intro w h
    by_cases hm : ∃ j, j < k ∧ Wk g s j w
    · obtain ⟨j, hj, hw⟩ := hm
      obtain ⟨i, hi, hd⟩ := ih j hj hw
      exact ⟨i, by omega, hd⟩
    · exact ⟨k, Nat.le_refl _, h, fun j hj hw => hm ⟨j, hj, hw⟩⟩

theorem Dist.pred {g : Gph} {s k w : Nat} (h : Dist g s (k + 1) w) : ∃ v, Dist g s k v ∧ E g v w := by
  obtain ⟨⟨v, hv, e⟩, hm⟩ := h
  refine ⟨v, ⟨hv, fun j hj hw => hm (j + 1) (by omega) ⟨v, hw, e⟩⟩, e⟩

theorem Dist.uniq {g : Gph} {s k j w : Nat} (h : Dist g s k w) (h' : Dist g s j w) : k = j := by
  rcases Nat.lt_trichotomy k j with h1 | h1 | h1
  · exact absurd h.1 (h'.2 k h1)
  · exact h1
  · exact absurd h'.1 (h.2 j h1)

/-- Distances are below the number of nodes. -/
theorem Dist.lt {g : Gph} (hg : Val g) {s : Nat} (hs : s < 2 ^ g.length) : ∀ {k w : Nat}, Dist g s k w → k < g.length := by
  intro k w h
  have hl : ∀ k w, Dist g s k w → ∃ l : List Nat, l.length = k + 1 ∧ l.Nodup ∧ ∀ v ∈ l, v < g.length ∧ ∃ j, j ≤ k ∧ Dist g s j v := by
    intro k
    induction k with
    | zero => intro w h; exact ⟨[w], rfl, by simp, fun v hv => by rw [List.mem_singleton.1 hv]; exact ⟨Wk.lt hg hs h.1, 0, Nat.le_refl _, h⟩⟩
    | succ k ih =>
      intro w h
      obtain ⟨v, hv, _⟩ := h.pred
      obtain ⟨l, h1, h2, h3⟩ := ih v hv
      refine ⟨w :: l, by simp [h1], List.nodup_cons.2 ⟨fun hw => ?_, h2⟩, fun u hu => ?_⟩
      · obtain ⟨_, j, hj, hd⟩ := h3 w hw
        have := h.uniq hd; omega
      · rcases List.mem_cons.1 hu with rfl | hu
        · exact ⟨Wk.lt hg hs h.1, k + 1, Nat.le_refl _, h⟩
        · obtain ⟨h4, j, hj, hd⟩ := h3 u hu
          exact ⟨h4, j, by omega, hd⟩
  obtain ⟨l, h1, h2, h3⟩ := hl k w h
  have := h2.length_le_of_subset (l₂ := List.range g.length) (fun v hv => List.mem_range.2 (h3 v hv).1)
  rw [List.length_range] at this; omega

/-! ### Sets as numbers -/
/-- The nodes for which something holds. -/
def mask (n : Nat) (p : Nat → Bool) : Nat := (List.range n).foldl (fun a v => if p v then a ||| 1 <<< v else a) 0

theorem foldl_or {α : Type} (f : α → Nat) (p : α → Bool) (i : Nat) : ∀ (l : List α) (a : Nat), (l.foldl (fun a v => if p v then a ||| f v else a) a).testBit i = (a.testBit i || l.any fun v => p v && (f v).testBit i)
  | [], a => by simp
  | x :: l, a => by
    rw [List.foldl_cons, foldl_or f p i l, List.any_cons]
    cases p x <;> simp [Bool.or_assoc]

theorem testBit_one_shift (v i : Nat) : (1 <<< v).testBit i = decide (v = i) := by
  rw [Nat.one_shiftLeft, Nat.testBit_two_pow]

theorem mask_bit {n : Nat} {p : Nat → Bool} {i : Nat} : (mask n p).testBit i = (decide (i < n) && p i) := by
  unfold mask
  rw [foldl_or, Nat.zero_testBit, Bool.false_or, Bool.eq_iff_iff]
  simp only [List.any_eq_true, List.mem_range, Bool.and_eq_true, decide_eq_true_eq, testBit_one_shift]
  constructor
  · rintro ⟨v, h1, h2, rfl⟩; exact ⟨h1, h2⟩
  · rintro ⟨h1, h2⟩; exact ⟨i, h1, h2, rfl⟩

theorem mask_lt (n : Nat) (p : Nat → Bool) : mask n p < 2 ^ n :=
  Nat.lt_pow_two_of_testBit _ fun i hi => by rw [mask_bit]; simp; omega

/-- The set of a list. -/
def setOf (l : List Nat) : Nat := l.foldl (fun a v => a ||| 1 <<< v) 0

theorem foldl_set (i : Nat) : ∀ (l : List Nat) (a : Nat), (l.foldl (fun a v => a ||| 1 <<< v) a).testBit i = (a.testBit i || decide (i ∈ l))
  | [], a => by simp
  | x :: l, a => by
    rw [List.foldl_cons, foldl_set i l, Nat.testBit_or, testBit_one_shift, Bool.or_assoc]
    congr 1
    rw [Bool.eq_iff_iff]
    simp only [Bool.or_eq_true, decide_eq_true_eq, List.mem_cons]
    rw [eq_comm (a := x)]

theorem setOf_bit {l : List Nat} {i : Nat} : (setOf l).testBit i = decide (i ∈ l) := by
  unfold setOf; rw [foldl_set]; simp

theorem setOf_lt {l : List Nat} {n : Nat} (h : ∀ v ∈ l, v < n) : setOf l < 2 ^ n :=
  Nat.lt_pow_two_of_testBit _ fun i hi => by
    rw [setOf_bit, decide_eq_false_iff_not]; intro hm; have := h i hm; omega

/-- One step on. -/
def nxt (g : Gph) (s : Nat) : Nat := (List.range g.length).foldl (fun a v => if s.testBit v then (row g v).foldl (fun a w => a ||| 1 <<< w.toNat) a else a) 0

theorem foldl_row (i : Nat) : ∀ (l : List Int) (a : Nat), (l.foldl (fun a w => a ||| 1 <<< w.toNat) a).testBit i = (a.testBit i || l.any fun w => decide (w.toNat = i))
  | [], a => by simp
  | x :: l, a => by
    rw [List.foldl_cons, foldl_row i l, Nat.testBit_or, testBit_one_shift, Bool.or_assoc, List.any_cons]

theorem foldl_nxt (g : Gph) (s i : Nat) : ∀ (l : List Nat) (a : Nat), (l.foldl (fun a v => if s.testBit v then (row g v).foldl (fun a w => a ||| 1 <<< w.toNat) a else a) a).testBit i = (a.testBit i || l.any fun v => s.testBit v && (row g v).any fun w => decide (w.toNat = i))
  | [], a => by simp
  | x :: l, a => by
    rw [List.foldl_cons, foldl_nxt g s i l, List.any_cons]
    cases hx : s.testBit x
    · simp
    · simp [foldl_row, Bool.or_assoc]

theorem nxt_bit {g : Gph} (hg : Val g) {s i : Nat} : (nxt g s).testBit i = true ↔ ∃ v, s.testBit v = true ∧ E g v i := by
  unfold nxt
  rw [foldl_nxt, Nat.zero_testBit, Bool.false_or]
  simp only [List.any_eq_true, List.mem_range, Bool.and_eq_true, decide_eq_true_eq]
  constructor
  · rintro ⟨v, _, hs, w, hw, rfl⟩
    exact ⟨v, hs, E_of hw (hg.mem hw).2.1⟩
  · rintro ⟨v, hs, he⟩
    exact ⟨v, (hg.lt he).1, hs, _, he, by simp⟩

theorem nxt_lt {g : Gph} (hg : Val g) (s : Nat) : nxt g s < 2 ^ g.length :=
  Nat.lt_pow_two_of_testBit _ fun i hi => by
    cases h : (nxt g s).testBit i
    · rfl
    · obtain ⟨v, _, he⟩ := (nxt_bit hg).1 h
      have := (hg.lt he).2; omega

def atK (g : Gph) (s : Nat) : Nat → Nat
  | 0 => s
  | k + 1 => nxt g (atK g s k)

theorem atK_bit {g : Gph} (hg : Val g) {s : Nat} : ∀ {k w : Nat}, (atK g s k).testBit w = true ↔ Wk g s k w
  | 0, w => Iff.rfl
  | k + 1, w => by
    rw [show atK g s (k + 1) = nxt g (atK g s k) from rfl, nxt_bit hg]
    constructor
    · rintro ⟨v, h, e⟩; exact ⟨v, (atK_bit hg).1 h, e⟩
    · rintro ⟨v, h, e⟩; exact ⟨v, (atK_bit hg).2 h, e⟩

/-- All that is reached in some steps. -/
def clK (g : Gph) (s : Nat) : Nat → Nat
  | 0 => s
  | k + 1 => clK g s k ||| nxt g (clK g s k)

theorem clK_bit {g : Gph} (hg : Val g) {s : Nat} : ∀ {k w : Nat}, (clK g s k).testBit w = true ↔ ∃ j, j ≤ k ∧ Wk g s j w
  | 0, w => ⟨fun h => ⟨0, Nat.le_refl _, h⟩, fun ⟨j, hj, h⟩ => by
      have : j = 0 := by omega
      subst this; exact h⟩
  | k + 1, w => by
    rw [show clK g s (k + 1) = clK g s k ||| nxt g (clK g s k) from rfl, Nat.testBit_or, Bool.or_eq_true, nxt_bit hg, clK_bit hg]
    constructor
    · rintro (⟨j, hj, h⟩ | ⟨v, hv, e⟩)
      · exact ⟨j, by omega, h⟩
      · obtain ⟨j, hj, h⟩ := (clK_bit hg).1 hv
        exact ⟨j + 1, by omega, v, h, e⟩
    · rintro ⟨j, hj, h⟩
      cases j with
      | zero => exact .inl ⟨0, by omega, h⟩
      | succ j =>
        obtain ⟨v, hv, e⟩ := h
        exact .inr ⟨v, (clK_bit hg).2 ⟨j, by omega, hv⟩, e⟩

def reach (g : Gph) (s : Nat) : Nat := clK g s g.length

theorem reach_bit {g : Gph} (hg : Val g) {s w : Nat} (hs : s < 2 ^ g.length) : (reach g s).testBit w = true ↔ ∃ v, s.testBit v = true ∧ R g v w := by
  unfold reach
  rw [clK_bit hg]
  constructor
  · rintro ⟨j, _, h⟩; exact Wk_R h
  · rintro ⟨v, hv, hr⟩
    obtain ⟨k, hk⟩ := R_Wk hv hr
    obtain ⟨j, _, hd⟩ := dist_of hk
    exact ⟨j, Nat.le_of_lt (hd.lt hg hs), hd.1⟩

theorem or_lt {a b n : Nat} (ha : a < 2 ^ n) (hb : b < 2 ^ n) : a ||| b < 2 ^ n := Nat.or_lt_two_pow ha hb

theorem clK_lt {g : Gph} (hg : Val g) {s : Nat} (hs : s < 2 ^ g.length) : ∀ k, clK g s k < 2 ^ g.length
  | 0 => hs
  | k + 1 => or_lt (clK_lt hg hs k) (nxt_lt hg _)

theorem reach_lt {g : Gph} (hg : Val g) {s : Nat} (hs : s < 2 ^ g.length) : reach g s < 2 ^ g.length := clK_lt hg hs _

theorem one_lt {n v : Nat} (h : v < n) : 1 <<< v < 2 ^ n := by rw [Nat.one_shiftLeft]; exact Nat.pow_lt_pow_right (by omega) h

theorem reach1_bit {g : Gph} (hg : Val g) {v w : Nat} (hv : v < g.length) : (reach g (1 <<< v)).testBit w = true ↔ R g v w := by
  rw [reach_bit hg (one_lt hv)]
  constructor
  · rintro ⟨u, hu, hr⟩
    rw [testBit_one_shift, decide_eq_true_eq] at hu; subst hu; exact hr
  · intro h; exact ⟨v, by rw [testBit_one_shift]; simp, h⟩

def back (g : Gph) (s : Nat) : Nat := mask g.length fun v => reach g (1 <<< v) &&& s != 0

theorem and_ne {a b : Nat} : (a &&& b != 0) = true ↔ ∃ i, a.testBit i = true ∧ b.testBit i = true := by
  rw [bne_iff_ne]
  constructor
  · intro h
    obtain ⟨i, hi⟩ := Nat.exists_testBit_of_ne_zero h
    rw [Nat.testBit_and, Bool.and_eq_true] at hi
    exact ⟨i, hi⟩
  · rintro ⟨i, h1, h2⟩ h
    have : (a &&& b).testBit i = true := by rw [Nat.testBit_and, h1, h2]; rfl
    rw [h] at this; simp at this

theorem back_bit {g : Gph} (hg : Val g) {s v : Nat} : (back g s).testBit v = true ↔ v < g.length ∧ ∃ w, s.testBit w = true ∧ R g v w := by
  unfold back
  rw [mask_bit, Bool.and_eq_true, decide_eq_true_eq, and_ne]
  constructor
  · rintro ⟨hv, i, h1, h2⟩; exact ⟨hv, i, h2, (reach1_bit hg hv).1 h1⟩
  · rintro ⟨hv, i, h1, h2⟩; exact ⟨hv, i, (reach1_bit hg hv).2 h2, h1⟩

def far1 (g : Gph) (s v : Nat) : Int := match (List.range (g.length + 1)).find? fun k => (atK g s k).testBit v with
  | some k => (k : Int)
  | none => -1

def far (g : Gph) (s : Nat) : List Int := (List.range g.length).map (far1 g s)

theorem far1_spec {g : Gph} (hg : Val g) {s v : Nat} (hs : s < 2 ^ g.length) : (∃ k, Dist g s k v ∧ far1 g s v = k) ∨ ((∀ k, ¬ Wk g s k v) ∧ far1 g s v = -1) := by
  unfold far1
  cases h : (List.range (g.length + 1)).find? fun k => (atK g s k).testBit v with
  | none =>
    right
    refine ⟨fun k hk => ?_, rfl⟩
    obtain ⟨j, _, hd⟩ := dist_of hk
    have hl := hd.lt hg hs
    have := List.find?_eq_none.1 h j (List.mem_range.2 (by omega))
    exact this ((atK_bit hg).2 hd.1)
  | some k =>
    left
    have hk : (atK g s k).testBit v = true := List.find?_some (p := fun k => (atK g s k).testBit v) h
    refine ⟨k, ⟨(atK_bit hg).1 hk, fun j hj hw => ?_⟩, rfl⟩
    obtain ⟨_, as, bs, hl, ha⟩ := List.find?_eq_some_iff_append.1 h
    have hlen : as.length = k := by
      have h2 : (List.range (g.length + 1))[as.length]? = some k := by rw [hl]; simp
      rw [List.getElem?_range] at h2
      · simpa using h2
      · have := congrArg List.length hl; simp at this; omega
    have hm : j ∈ as := by
      have h3 : (List.range (g.length + 1))[j]? = as[j]? := by rw [hl, List.getElem?_append_left (by omega)]
      have hjn : j < g.length + 1 := by have := congrArg List.length hl; simp at this; omega
      rw [List.getElem?_range hjn] at h3
      exact List.mem_of_getElem? h3.symm
    have := ha j hm
    simp [(atK_bit hg).2 hw] at this

end Go.Cm.Gr
end

section
/- Searching a graph breadth first: what the queue's search finds are the distances. No program is in sight. -/
namespace Go.Cm.Gr

def gi (l : List Int) (i : Nat) : Int := l.getD i 0

theorem gi_set {l : List Int} {i j : Nat} {x : Int} (h : i < l.length) : gi (l.set i x) j = if i = j then x else gi l j := by
  unfold gi
  rw [List.getD_eq_getElem?_getD, List.getElem?_set, List.getD_eq_getElem?_getD]
  split
  · rename_i e; subst e; simp [h]
  · rfl

/-- One edge of the node at the queue's head. -/
def relax (d : Int) (p : List Int × List Int) (w : Int) : List Int × List Int :=
  if gi p.2 w.toNat < 0 then (p.1 ++ [w], p.2.set w.toNat (d + 1)) else p

def round (g : Gph) (q : List Int) (out : List Int) : List Int × List Int :=
  match q with
  | [] => ([], out)
  | v :: q => (row g v.toNat).foldl (relax (gi out v.toNat)) (q, out)

/-- Nodes without a distance. -/
def blank (out : List Int) : Nat := out.countP fun x => decide (x < 0)

/-- What holds while the queue is searched. -/
structure Bf (g : Gph) (s : Nat) (q out : List Int) : Prop where
  len : out.length = g.length
  low : ∀ v, v < g.length → -1 ≤ gi out v
  dist : ∀ v, v < g.length → 0 ≤ gi out v → Dist g s (gi out v).toNat v
  from_ : ∀ v, s.testBit v = true → 0 ≤ gi out v
  inq : ∀ v ∈ q, 0 ≤ v ∧ v < g.length ∧ 0 ≤ gi out v.toNat
  sorted : q.Pairwise fun v w => gi out v.toNat ≤ gi out w.toNat
  near : ∀ v ∈ q, ∀ w ∈ q, gi out w.toNat ≤ gi out v.toNat + 1
  done : ∀ v, v < g.length → 0 ≤ gi out v → (v : Int) ∉ q → ∀ w, E g v w → 0 ≤ gi out w

/-- While the edges of one node are followed. -/
structure Bf1 (g : Gph) (s : Nat) (v : Nat) (d : Nat) (seen : List Int) (q out : List Int) : Prop where
  len : out.length = g.length
  low : ∀ v, v < g.length → -1 ≤ gi out v
  dist : ∀ v, v < g.length → 0 ≤ gi out v → Dist g s (gi out v).toNat v
  from_ : ∀ v, s.testBit v = true → 0 ≤ gi out v
  inq : ∀ v ∈ q, 0 ≤ v ∧ v < g.length ∧ 0 ≤ gi out v.toNat
  sorted : q.Pairwise fun v w => gi out v.toNat ≤ gi out w.toNat
  near : ∀ w ∈ q, (d : Int) ≤ gi out w.toNat ∧ gi out w.toNat ≤ d + 1
  this : gi out v = d ∧ v < g.length
  upto : ∀ k w, k ≤ d → Dist g s k w → 0 ≤ gi out w
  done : ∀ u, u < g.length → 0 ≤ gi out u → (u : Int) ∉ q → u ≠ v → ∀ w, E g u w → 0 ≤ gi out w
  part : ∀ w ∈ seen, 0 ≤ gi out w.toNat

theorem Bf.upto {g : Gph} (hg : Val g) {s : Nat} {q out : List Int} {v : Int} (h : Bf g s (v :: q) out) : ∀ (k w : Nat), (k : Int) ≤ gi out v.toNat → Dist g s k w → 0 ≤ gi out w := by
  intro k
  induction k with
  | zero => intro w _ hd; exact h.from_ w hd.1
  | succ k ih =>
    intro w hk hd
    obtain ⟨u, hu, he⟩ := hd.pred
    have h0 := ih u (by omega) hu
    have hun := (hg.lt he).1
    have hd' := h.dist u hun h0
    have hku : (gi out u).toNat = k := hd'.uniq hu
    refine h.done u hun h0 (fun hm => ?_) w he
    rcases List.mem_cons.1 hm with e | hm
    · rw [← e] at hk; simp at hk; omega
    · have := (List.pairwise_cons.1 h.sorted).1 _ hm
      simp at this; omega

theorem Bf.start {g : Gph} (hg : Val g) {s : Nat} {q out : List Int} {v : Int} (h : Bf g s (v :: q) out) : Bf1 g s v.toNat (gi out v.toNat).toNat [] q out := by
  obtain ⟨h0, h1, h2⟩ := h.inq v (by simp)
  refine ⟨h.len, h.low, h.dist, h.from_, fun w hw => h.inq w (by simp [hw]), (List.pairwise_cons.1 h.sorted).2, fun w hw => ?_, ⟨by omega, by omega⟩, fun k w hk hd => h.upto hg k w (by omega) hd, fun u hu hu0 huq huv w he => ?_, fun w hw => by simp at hw⟩
  · have := (List.pairwise_cons.1 h.sorted).1 w hw
    have := h.near v (by simp) w (by simp [hw])
    omega
  · refine h.done u hu hu0 (fun hm => ?_) w he
    rcases List.mem_cons.1 hm with e | hm
    · omega
    · exact huq hm

theorem Bf1.step {g : Gph} (hg : Val g) {s v d : Nat} {seen q out : List Int} (h : Bf1 g s v d seen q out) {w : Int} (hw : w ∈ row g v) : Bf1 g s v d (seen ++ [w]) (relax d (q, out) w).1 (relax d (q, out) w).2 := by
  have hwn := hg.mem hw
  have hlt : w.toNat < out.length := by rw [h.len]; omega
  have he : E g v w.toNat := E_of hw hwn.2.1
  unfold relax
  split
  · rename_i hneg
    dsimp only at hneg ⊢
    have hnew : Dist g s (d + 1) w.toNat := by
      have h3 := h.this.1
      have hv := h.dist v h.this.2 (by omega)
      rw [show (gi out v).toNat = d by omega] at hv
      refine ⟨⟨v, hv.1, he⟩, fun j hj hk => ?_⟩
      obtain ⟨i, hi, hd⟩ := dist_of hk
      have := h.upto i w.toNat (by omega) hd
      omega
    have hge : ∀ u, 0 ≤ gi out u → 0 ≤ gi (out.set w.toNat (d + 1)) u := fun u hu => by
      rw [gi_set hlt]; split <;> omega
    have hsame : ∀ u, 0 ≤ gi out u → gi (out.set w.toNat (d + 1)) u = gi out u := fun u hu => by
      rw [gi_set hlt]; split
      · rename_i e; subst e; omega
      · rfl
    refine ⟨by simp [h.len], fun u hu => ?_, fun u hu hu0 => ?_, fun u hu => hge u (h.from_ u hu), fun u hu => ?_, ?_, fun u hu => ?_, ⟨?_, h.this.2⟩, fun k u hk hd => hge u (h.upto k u hk hd), fun u hu hu0 huq huv x hx => ?_, fun u hu => ?_⟩
    · rw [gi_set hlt]; split
      · omega
      · exact h.low u hu
    · rw [gi_set hlt] at hu0 ⊢
      split
      · rename_i e; subst e; exact hnew
      · rename_i e; rw [if_neg e] at hu0; exact h.dist u hu hu0
    · rcases List.mem_append.1 hu with hu | hu
      · obtain ⟨a, b, c⟩ := h.inq u hu; exact ⟨a, b, hge _ c⟩
      · rw [List.mem_singleton.1 hu]; exact ⟨hwn.2.1, hwn.2.2, by rw [gi_set hlt, if_pos rfl]; omega⟩
    · refine List.pairwise_append.2 ⟨?_, by simp, fun a ha b hb => ?_⟩
      · refine h.sorted.imp_of_mem fun {a b} ha hb hab => ?_
        rw [hsame _ (h.inq a ha).2.2, hsame _ (h.inq b hb).2.2]; exact hab
      · rw [List.mem_singleton.1 hb, hsame _ (h.inq a ha).2.2, gi_set hlt, if_pos rfl]
        exact (h.near a ha).2
    · rcases List.mem_append.1 hu with hu | hu
      · rw [hsame _ (h.inq u hu).2.2]; exact h.near u hu
      · rw [List.mem_singleton.1 hu, gi_set hlt, if_pos rfl]; omega
    · rw [hsame v (by have := h.this.1; omega)]; exact h.this.1
    · rw [gi_set hlt] at hu0
      split at hu0
      · rename_i e
        exact absurd (List.mem_append.2 (.inr (by rw [← e, Int.toNat_of_nonneg hwn.2.1]; simp))) huq
      · exact hge x (h.done u hu hu0 (fun hm => huq (List.mem_append.2 (.inl hm))) huv x hx)
    · rcases List.mem_append.1 hu with hu | hu
      · exact hge _ (h.part u hu)
      · rw [List.mem_singleton.1 hu, gi_set hlt, if_pos rfl]; omega
  · rename_i hneg
    dsimp only at hneg ⊢
    exact ⟨h.len, h.low, h.dist, h.from_, h.inq, h.sorted, h.near, h.this, h.upto, h.done, fun u hu => by
      rcases List.mem_append.1 hu with hu | hu
      · exact h.part u hu
      · rw [List.mem_singleton.1 hu]; omega⟩

theorem Bf1.steps {g : Gph} (hg : Val g) {s v d : Nat} : ∀ {ws seen q out : List Int}, Bf1 g s v d seen q out → (∀ w ∈ ws, w ∈ row g v) → Bf1 g s v d (seen ++ ws) (ws.foldl (relax d) (q, out)).1 (ws.foldl (relax d) (q, out)).2
  | [], seen, q, out, h, _ => by simpa using h
  | w :: ws, seen, q, out, h, hw => by
    have h1 := h.step hg (hw w (by simp))
    have h2 := Bf1.steps hg (ws := ws) h1 (fun u hu => hw u (by simp [hu]))
    rw [List.foldl_cons]
    simpa using h2

theorem Bf1.close {g : Gph} {s v d : Nat} {q out : List Int} (h : Bf1 g s v d (row g v) q out) (hg : Val g) : Bf g s q out := by
  refine ⟨h.len, h.low, h.dist, h.from_, h.inq, h.sorted, fun u hu w hw => ?_, fun u hu hu0 huq w he => ?_⟩
  · have := h.near u hu; have := h.near w hw; omega
  · by_cases e : u = v
    · subst e
      have := h.part (w : Int) he
      simpa using this
    · exact h.done u hu hu0 huq e w he

theorem Bf.round {g : Gph} (hg : Val g) {s : Nat} {q out : List Int} {v : Int} (h : Bf g s (v :: q) out) : Bf g s (Gr.round g (v :: q) out).1 (Gr.round g (v :: q) out).2 := by
  have h1 := h.start hg
  have h2 := h1.steps hg (ws := row g v.toNat) (fun w hw => hw)
  have h0 : 0 ≤ gi out v.toNat := (h.inq v (by simp)).2.2
  rw [List.nil_append, Int.toNat_of_nonneg h0] at h2
  exact h2.close hg

/-- Behind the last node all distances are known. -/
theorem Bf.end_ {g : Gph} (hg : Val g) {s : Nat} (hs : s < 2 ^ g.length) {out : List Int} (h : Bf g s [] out) : out = far g s := by
  refine List.ext_getElem (by simp [far, h.len]) fun i hi _ => ?_
  have hn : i < g.length := by rw [h.len] at hi; exact hi
  have hgi : out[i] = gi out i := by unfold gi; rw [List.getD_eq_getElem?_getD, List.getElem?_eq_getElem hi]; rfl
  have hre : ∀ k w, Wk g s k w → 0 ≤ gi out w := by
    intro k
    induction k with
    | zero => intro w hw; exact h.from_ w hw
    | succ k ih =>
      rintro w ⟨v, hv, he⟩
      exact h.done v (hg.lt he).1 (ih v hv) (by simp) w he
  simp only [far, List.getElem_map, List.getElem_range]
  rw [hgi]
  rcases far1_spec hg hs (v := i) with ⟨k, hd, e⟩ | ⟨hno, e⟩
  · rw [e]
    have h0 := hre k i hd.1
    have := (h.dist i hn h0).uniq hd
    omega
  · rw [e]
    have hl := h.low i hn
    by_cases h0 : gi out i < 0
    · omega
    · exact absurd (h.dist i hn (by omega)).1 (hno _)

/-! ### The end comes -/
theorem blank_set {out : List Int} : ∀ {i : Nat} {x : Int}, i < out.length → gi out i < 0 → 0 ≤ x → blank (out.set i x) + 1 = blank out := by
  induction out with
  | nil => intro i x h; simp at h
  | cons a l ih =>
    intro i x h h1 h2
    cases i with
    | zero =>
      have h1' : a < 0 := h1
      simp only [List.set_cons_zero, blank, List.countP_cons, decide_eq_true_eq]
      rw [if_pos h1', if_neg (by omega)]
    | succ i =>
      have := ih (i := i) (x := x) (by simpa using h) h1 h2
      simp only [List.set_cons_succ, blank, List.countP_cons] at this ⊢
      omega

theorem relax_mu {d : Int} (hd : -1 ≤ d) {q out : List Int} {w : Int} (hw : w.toNat < out.length) : (relax d (q, out) w).1.length + blank (relax d (q, out) w).2 = q.length + blank out ∧ (relax d (q, out) w).2.length = out.length := by
  unfold relax
  split
  · rename_i h
    have h : gi out w.toNat < 0 := h
    have := blank_set hw h (x := d + 1) (by omega)
    show (q ++ [w]).length + blank (out.set w.toNat (d + 1)) = q.length + blank out ∧ (out.set w.toNat (d + 1)).length = out.length
    rw [List.length_append, List.length_set]
    exact ⟨by simp only [List.length_cons, List.length_nil]; omega, rfl⟩
  · exact ⟨rfl, rfl⟩

theorem relaxs_mu {d : Int} (hd : -1 ≤ d) : ∀ {ws q out : List Int}, (∀ w ∈ ws, w.toNat < out.length) → (ws.foldl (relax d) (q, out)).1.length + blank (ws.foldl (relax d) (q, out)).2 = q.length + blank out ∧ (ws.foldl (relax d) (q, out)).2.length = out.length
  | [], _, _, _ => ⟨rfl, rfl⟩
  | w :: ws, q, out, h => by
    have h1 := relax_mu hd (q := q) (h w (by simp))
    rw [List.foldl_cons]
    have h2 := relaxs_mu hd (ws := ws) (q := (relax d (q, out) w).1) (out := (relax d (q, out) w).2) (fun u hu => by rw [h1.2]; exact h u (by simp [hu]))
    exact ⟨h2.1.trans h1.1, h2.2.trans h1.2⟩

end Go.Cm.Gr
end

section
/- The search for the parts of a graph: each node's part is complete where the search leaves the first node of it. No program is in sight. -/
namespace Go.Cm.Gr

/-- The part of a node. -/
def scc (g : Gph) (v : Nat) : Nat := reach g (1 <<< v) &&& back g (1 <<< v)

theorem scc_bit {g : Gph} (hg : Val g) {v i : Nat} (hv : v < g.length) : (scc g v).testBit i = true ↔ R g v i ∧ R g i v := by
  unfold scc
  rw [Nat.testBit_and, Bool.and_eq_true, reach1_bit hg hv, back_bit hg]
  constructor
  · rintro ⟨h1, _, w, hw, h2⟩
    rw [testBit_one_shift, decide_eq_true_eq] at hw; subst hw; exact ⟨h1, h2⟩
  · rintro ⟨h1, h2⟩; exact ⟨h1, h1.lt hg hv, v, by rw [testBit_one_shift]; simp, h2⟩

theorem scc_eq {g : Gph} (hg : Val g) {v u : Nat} (hv : v < g.length) (h1 : R g v u) (h2 : R g u v) : scc g v = scc g u := by
  apply Nat.eq_of_testBit_eq
  intro i
  rw [Bool.eq_iff_iff, scc_bit hg hv, scc_bit hg (h1.lt hg hv)]
  exact ⟨fun h => ⟨h2.trans h.1, h.2.trans h1⟩, fun h => ⟨h1.trans h.1, h.2.trans h2⟩⟩

structure Tj where
  cnt : Int
  fnd : List Int
  stk : List Int
  dn : Nat
  out : List Int

def tstep (rec : Tj → Int → Tj × Int) (p : Tj × Int) (w : Int) : Tj × Int :=
  if gi p.1.fnd w.toNat = 0 then ((rec p.1 w).1, min p.2 (rec p.1 w).2)
  else if p.1.dn.testBit w.toNat = true then p else (p.1, min p.2 (gi p.1.fnd w.toNat))

def topen (s : Tj) (v : Int) : Tj := ⟨s.cnt + 1, s.fnd.set v.toNat (s.cnt + 1), s.stk ++ [v], s.dn, s.out⟩

def tpart (k : Nat) (s : Tj) : Nat := setOf ((s.stk.drop k).map Int.toNat)

def tclose (k : Nat) (v : Int) (p : Tj × Int) : Tj × Int :=
  if p.2 = gi p.1.fnd v.toNat then (⟨p.1.cnt, p.1.fnd, p.1.stk.take k, p.1.dn ||| tpart k p.1, p.1.out ++ [(tpart k p.1 : Int)]⟩, p.2) else p

def tvisit (g : Gph) : Nat → Tj → Int → Tj × Int
  | 0, s, _ => (s, 0)
  | k + 1, s, v => tclose s.stk.length v ((row g v.toNat).foldl (tstep (tvisit g k)) (topen s v, s.cnt + 1))

def white (l : List Int) : Nat := l.countP fun x => decide (x = 0)

theorem white_set {l : List Int} : ∀ {i : Nat} {x : Int}, i < l.length → gi l i = 0 → x ≠ 0 → white (l.set i x) + 1 = white l := by
  induction l with
  | nil => intro i x h; simp at h
  | cons a l ih =>
    intro i x h h1 h2
    cases i with
    | zero =>
      have h1' : a = 0 := h1
      simp only [List.set_cons_zero, white, List.countP_cons, decide_eq_true_eq]
      rw [if_pos h1', if_neg h2]
    | succ i =>
      have := ih (i := i) (x := x) (by simpa using h) h1 h2
      simp only [List.set_cons_succ, white, List.countP_cons] at this ⊢
      omega

theorem white_pos {l : List Int} {i : Nat} (h : i < l.length) (h0 : gi l i = 0) : 0 < white l := by
  unfold white
  rw [List.countP_pos_iff]
  refine ⟨l[i], List.getElem_mem h, ?_⟩
  unfold gi at h0
  rw [List.getD_eq_getElem?_getD, List.getElem?_eq_getElem h] at h0
  simpa using h0

structure Inv (g : Gph) (gray : List Nat) (s : Tj) : Prop where
  len : s.fnd.length = g.length
  cnt : 0 ≤ s.cnt
  wh : (white s.fnd : Int) + s.cnt = g.length
  num : ∀ v, v < g.length → 0 ≤ gi s.fnd v ∧ gi s.fnd v ≤ s.cnt
  stk : ∀ v ∈ s.stk, 0 ≤ v ∧ v < g.length
  few : (s.stk.length : Int) + s.out.length ≤ s.cnt
  dnlt : s.dn < 2 ^ g.length
  onstk : ∀ v, v < g.length → ((v : Int) ∈ s.stk ↔ gi s.fnd v ≠ 0 ∧ s.dn.testBit v = false)
  dnf : ∀ v, s.dn.testBit v = true → gi s.fnd v ≠ 0
  sorted : s.stk.Pairwise fun a b => gi s.fnd a.toNat < gi s.fnd b.toNat
  gr : ∀ x ∈ gray, (x : Int) ∈ s.stk
  dnE : ∀ v w, s.dn.testBit v = true → E g v w → s.dn.testBit w = true
  black : ∀ v w, v < g.length → gi s.fnd v ≠ 0 → v ∉ gray → E g v w → gi s.fnd w ≠ 0
  up : ∀ x ∈ gray, ∀ y ∈ s.stk, gi s.fnd x ≤ gi s.fnd y.toNat → R g x y.toNat
  down : ∀ y ∈ s.stk, ∃ x ∈ gray, gi s.fnd x ≤ gi s.fnd y.toNat ∧ R g y.toNat x
  parts : ∀ p ∈ s.out, ∃ r, r < g.length ∧ s.dn.testBit r = true ∧ p = (scc g r : Int)
  all : ∀ v, s.dn.testBit v = true → (scc g v : Int) ∈ s.out
  nodup : s.out.Nodup

/-- From one state of the search to a later one. -/
structure Later (g : Gph) (s t : Tj) : Prop where
  ext : ∃ e, t.stk = s.stk ++ e
  keep : ∀ u, u < g.length → gi s.fnd u ≠ 0 → gi t.fnd u = gi s.fnd u
  new : ∀ u, u < g.length → gi s.fnd u = 0 → gi t.fnd u ≠ 0 → s.cnt < gi t.fnd u
  dn : ∀ u, s.dn.testBit u = true → t.dn.testBit u = true
  cnt : s.cnt ≤ t.cnt

theorem Later.refl (g : Gph) (s : Tj) : Later g s s := ⟨⟨[], by simp⟩, fun _ _ _ => rfl, fun _ _ h h' => absurd h h', fun _ h => h, Int.le_refl _⟩

theorem Later.trans {g : Gph} {a b c : Tj} (h : Later g a b) (k : Later g b c) : Later g a c := by
  obtain ⟨e, he⟩ := h.ext
  obtain ⟨f, hf⟩ := k.ext
  refine ⟨⟨e ++ f, by rw [hf, he, List.append_assoc]⟩, fun u hu h0 => ?_, fun u hu h0 h1 => ?_, fun u hu => k.dn u (h.dn u hu), Int.le_trans h.cnt k.cnt⟩
  · have := h.keep u hu h0; rw [k.keep u hu (by rw [this]; exact h0), this]
  · by_cases hb : gi b.fnd u = 0
    · have := k.new u hu hb h1; have := h.cnt; omega
    · rw [k.keep u hu hb]; exact h.new u hu h0 hb

theorem Later.mem {g : Gph} {a b : Tj} (h : Later g a b) {v : Int} (hv : v ∈ a.stk) : v ∈ b.stk := by
  obtain ⟨e, he⟩ := h.ext; rw [he]; exact List.mem_append.2 (.inl hv)

/-- What a visit of a node does. -/
structure Post (g : Gph) (gray : List Nat) (s : Tj) (v : Int) (t : Tj) (low : Int) : Prop where
  inv : Inv g gray t
  later : Later g s t
  more : s.cnt < t.cnt
  found : gi t.fnd v.toNat ≠ 0
  low1 : low ≤ gi t.fnd v.toNat
  low2 : low = gi t.fnd v.toNat ∨ ∃ y ∈ t.stk, gi t.fnd y.toNat = low ∧ R g v.toNat y.toNat
  edges : ∀ x ∈ t.stk, x ∉ s.stk → ∀ y ∈ s.stk, E g x.toNat y.toNat → low ≤ gi s.fnd y.toNat
  pos : 0 < low

/-- What a visit asks. -/
structure Pre (g : Gph) (gray : List Nat) (s : Tj) (v : Int) : Prop where
  inv : Inv g gray s
  node : 0 ≤ v ∧ v < g.length
  new : gi s.fnd v.toNat = 0
  from_ : ∀ x ∈ gray, R g x v.toNat

/-- While the edges of a node are followed. -/
structure Lp (g : Gph) (gray : List Nat) (s : Tj) (v : Int) (seen : List Int) (t : Tj) (low : Int) : Prop where
  inv : Inv g (gray ++ [v.toNat]) t
  later : Later g (topen s v) t
  low1 : low ≤ s.cnt + 1
  low2 : ∃ y ∈ t.stk, gi t.fnd y.toNat = low ∧ R g v.toNat y.toNat
  edges : ∀ x ∈ t.stk, x ∉ (topen s v).stk → ∀ y ∈ s.stk, E g x.toNat y.toNat → low ≤ gi s.fnd y.toNat
  seenF : ∀ w ∈ seen, gi t.fnd w.toNat ≠ 0
  seenE : ∀ w ∈ seen, w ∈ s.stk → low ≤ gi s.fnd w.toNat
  pos : 0 < low

theorem Inv.notin {g : Gph} {gray : List Nat} {s : Tj} (h : Inv g gray s) {v : Int} (h0 : 0 ≤ v) (hv : v < g.length) (hz : gi s.fnd v.toNat = 0) : v ∉ s.stk := by
  intro hm
  have := (h.onstk v.toNat (by omega)).1 (by rw [Int.toNat_of_nonneg h0]; exact hm)
  exact this.1 hz

theorem Inv.stkF {g : Gph} {gray : List Nat} {s : Tj} (h : Inv g gray s) {v : Int} (hv : v ∈ s.stk) : gi s.fnd v.toNat ≠ 0 ∧ s.dn.testBit v.toNat = false ∧ v.toNat < g.length := by
  obtain ⟨h0, h1⟩ := h.stk v hv
  have := (h.onstk v.toNat (by omega)).1 (by rw [Int.toNat_of_nonneg h0]; exact hv)
  exact ⟨this.1, this.2, by omega⟩

theorem Pre.laterOpen {g : Gph} {gray : List Nat} {s : Tj} {v : Int} (h : Pre g gray s v) : Later g s (topen s v) := by
  have hl : v.toNat < s.fnd.length := by rw [h.inv.len]; have := h.node; omega
  refine ⟨⟨[v], rfl⟩, fun u hu h0 => ?_, fun u hu h0 h1 => ?_, fun _ h => h, by simp only [topen]; omega⟩
  · simp only [topen]; rw [gi_set hl, if_neg]; intro e; subst e; exact h0 h.new
  · simp only [topen] at h1 ⊢
    rw [gi_set hl] at h1 ⊢
    split
    · omega
    · rename_i e; rw [if_neg e] at h1; exact absurd h0 h1

theorem Pre.start {g : Gph} {gray : List Nat} {s : Tj} {v : Int} (h : Pre g gray s v) : Lp g gray s v [] (topen s v) (s.cnt + 1) := by
  have hi := h.inv
  obtain ⟨hv0, hvn⟩ := h.node
  have hl : v.toNat < s.fnd.length := by rw [hi.len]; omega
  have hnum : ∀ u, gi (topen s v).fnd u = if v.toNat = u then s.cnt + 1 else gi s.fnd u := fun u => gi_set hl
  have hme : gi (topen s v).fnd v.toNat = s.cnt + 1 := by rw [hnum, if_pos rfl]
  have hnv : ∀ y ∈ s.stk, v.toNat ≠ y.toNat := fun y hy e => by
    have := (hi.stkF hy).1; rw [← e] at this; exact this h.new
  have hold : ∀ y ∈ s.stk, gi (topen s v).fnd y.toNat = gi s.fnd y.toNat := fun y hy => by rw [hnum, if_neg (hnv y hy)]
  have hgo : ∀ x ∈ gray, gi (topen s v).fnd x = gi s.fnd x := fun x hx => by have := hold _ (hi.gr x hx); simpa using this
  have hc := hi.cnt
  refine ⟨⟨by simp [topen, hi.len], by simp only [topen]; omega, ?_, fun u hu => ?_, fun u hu => ?_, ?_, hi.dnlt, fun u hu => ?_, fun u hu => ?_, ?_, fun x hx => ?_, hi.dnE, fun u w hu h0 hg he => ?_, fun x hx y hy hxy => ?_, fun y hy => ?_, hi.parts, hi.all, hi.nodup⟩, .refl g _, Int.le_refl _, ⟨v, by simp [topen], hme, .refl _⟩, fun x hx hx' => absurd hx hx', fun w hw => by simp at hw, fun w hw => by simp at hw, by omega⟩
  · have := white_set hl h.new (x := s.cnt + 1) (by omega)
    have := hi.wh
    simp only [topen]; omega
  · rw [hnum]; have := hi.num u hu
    simp only [topen]; split <;> omega
  · rcases List.mem_append.1 (show u ∈ s.stk ++ [v] from hu) with hu | hu
    · exact hi.stk u hu
    · rw [List.mem_singleton.1 hu]; exact ⟨hv0, hvn⟩
  · have := hi.few; simp only [topen, List.length_append, List.length_cons, List.length_nil]; omega
  · show (u : Int) ∈ s.stk ++ [v] ↔ gi (topen s v).fnd u ≠ 0 ∧ s.dn.testBit u = false
    rw [List.mem_append, List.mem_singleton, hnum]
    by_cases e : v.toNat = u
    · rw [if_pos e]
      refine ⟨fun _ => ⟨by omega, ?_⟩, fun _ => .inr (by omega)⟩
      cases hd : s.dn.testBit u
      · rfl
      · have := hi.dnf u hd; rw [← e] at this; exact absurd h.new this
    · rw [if_neg e, ← hi.onstk u hu]
      exact ⟨fun h => h.resolve_right (by omega), .inl⟩
  · have hu' := hi.dnf u hu
    rw [hnum]; split
    · omega
    · exact hu'
  · refine List.pairwise_append.2 ⟨hi.sorted.imp_of_mem fun {a b} ha hb hab => ?_, by simp, fun a ha b hb => ?_⟩
    · rw [hold a ha, hold b hb]; exact hab
    · rw [List.mem_singleton.1 hb, hold a ha, hme]
      have := (hi.num a.toNat (hi.stkF ha).2.2).2; omega
  · show (x : Int) ∈ s.stk ++ [v]
    rcases List.mem_append.1 hx with hx | hx
    · exact List.mem_append.2 (.inl (hi.gr x hx))
    · rw [List.mem_singleton.1 hx, Int.toNat_of_nonneg hv0]; simp
  · have hne : u ≠ v.toNat := fun e => hg (by simp [e])
    rw [hnum, if_neg (fun e => hne e.symm)] at h0
    have hw := hi.black u w hu h0 (fun hm => hg (List.mem_append.2 (.inl hm))) he
    rw [hnum]; split
    · omega
    · exact hw
  · rcases List.mem_append.1 (show y ∈ s.stk ++ [v] from hy) with hy | hy <;> rcases List.mem_append.1 hx with hx | hx
    · rw [hgo x hx, hold y hy] at hxy; exact hi.up x hx y hy hxy
    · rw [List.mem_singleton.1 hx, hme, hold y hy] at hxy
      have := (hi.num y.toNat (hi.stkF hy).2.2).2; omega
    · rw [List.mem_singleton.1 hy]; exact h.from_ x hx
    · rw [List.mem_singleton.1 hx, List.mem_singleton.1 hy]; exact .refl _
  · rcases List.mem_append.1 (show y ∈ s.stk ++ [v] from hy) with hy | hy
    · obtain ⟨x, hx, h1, h2⟩ := hi.down y hy
      exact ⟨x, List.mem_append.2 (.inl hx), by rw [hgo x hx, hold y hy]; exact h1, h2⟩
    · rw [List.mem_singleton.1 hy]; exact ⟨v.toNat, by simp, Int.le_refl _, .refl _⟩

/-- A visit within some fuel. -/
def VS (g : Gph) (k : Nat) : Prop := ∀ gray s v, Pre g gray s v → white s.fnd ≤ k → Post g gray s v (tvisit g k s v).1 (tvisit g k s v).2

theorem Lp.me {g : Gph} {gray : List Nat} {s : Tj} {v : Int} {seen : List Int} {t : Tj} {low : Int} (hp : Pre g gray s v) (h : Lp g gray s v seen t low) : gi t.fnd v.toNat = s.cnt + 1 := by
  have hl : v.toNat < s.fnd.length := by rw [hp.inv.len]; have := hp.node; omega
  have : gi (topen s v).fnd v.toNat = s.cnt + 1 := by simp only [topen]; rw [gi_set hl, if_pos rfl]
  rw [h.later.keep v.toNat (by have := hp.node; omega) (by rw [this]; have := hp.inv.cnt; omega), this]

theorem Lp.pre {g : Gph} {gray : List Nat} {s : Tj} {v : Int} {seen : List Int} {t : Tj} {low : Int} (hg : Val g) (hp : Pre g gray s v) (h : Lp g gray s v seen t low) {w : Int} (hw : w ∈ row g v.toNat) (h0 : gi t.fnd w.toNat = 0) : Pre g (gray ++ [v.toNat]) t w := by
  have hm := hg.mem hw
  have he : E g v.toNat w.toNat := E_of hw hm.2.1
  refine ⟨h.inv, hm.2, h0, fun x hx => ?_⟩
  have hv : (v.toNat : Int) ∈ t.stk := h.inv.gr _ (by simp)
  rcases List.mem_append.1 hx with hx' | hx'
  · have := h.inv.up x hx v.toNat hv (by
      have hxs := hp.inv.gr x hx'
      have h1 := (hp.inv.stkF hxs)
      rw [Int.toNat_natCast] at h1
      have h2 := (hp.laterOpen.trans h.later).keep x h1.2.2 h1.1
      have h3 := (hp.inv.num x h1.2.2).2
      rw [Int.toNat_natCast, h.me hp, h2]; omega)
    rw [Int.toNat_natCast] at this
    exact .tail this he
  · rw [List.mem_singleton.1 hx']; exact .one he

theorem Lp.whites {g : Gph} {gray : List Nat} {s : Tj} {v : Int} {seen : List Int} {t : Tj} {low : Int} (hp : Pre g gray s v) (h : Lp g gray s v seen t low) {k : Nat} (hk : white s.fnd ≤ k + 1) : white t.fnd ≤ k := by
  have h1 := h.inv.wh; have h2 := hp.inv.wh; have h3 := h.later.cnt
  simp only [topen] at h3; omega

theorem Lp.step {g : Gph} (hg : Val g) {k : Nat} (ih : VS g k) {gray : List Nat} {s : Tj} {v : Int} {seen : List Int} {t : Tj} {low : Int} (hp : Pre g gray s v) (hk : white s.fnd ≤ k + 1) (h : Lp g gray s v seen t low) {w : Int} (hw : w ∈ row g v.toNat) :
    Lp g gray s v (seen ++ [w]) (tstep (tvisit g k) (t, low) w).1 (tstep (tvisit g k) (t, low) w).2 := by
  have hm := hg.mem hw
  have he : E g v.toNat w.toNat := E_of hw hm.2.1
  have hsub : ∀ y ∈ s.stk, y ∈ (topen s v).stk := fun y hy => List.mem_append.2 (.inl hy)
  have hall := hp.laterOpen.trans h.later
  unfold tstep
  split
  · rename_i h0
    dsimp only at h0 ⊢
    have hq := ih _ _ _ (h.pre hg hp hw h0) (h.whites hp hk)
    generalize tvisit g k t w = q at hq
    obtain ⟨t', l⟩ := q
    dsimp only at hq ⊢
    have hl2 := h.later.trans hq.later
    have hfv : gi t.fnd v.toNat ≠ 0 := by rw [h.me hp]; have := hp.inv.cnt; omega
    refine ⟨hq.inv, hl2, by have := h.low1; omega, ?_, fun x hx hx' y hy hxy => ?_, fun u hu => ?_, fun u hu hus => ?_, by have := h.pos; have := hq.pos; omega⟩
    · by_cases hll : low ≤ l
      · rw [Int.min_eq_left hll]
        obtain ⟨y, h1, h2, h3⟩ := h.low2
        exact ⟨y, hq.later.mem h1, by rw [hq.later.keep _ (h.inv.stkF h1).2.2 (h.inv.stkF h1).1, h2], h3⟩
      · rw [Int.min_eq_right (by omega)]
        rcases hq.low2 with h1 | ⟨y, h1, h2, h3⟩
        · have := hq.later.new w.toNat (by omega) h0 hq.found
          have h4 := (h.inv.num v.toNat (by have := hp.node; omega)).2
          rw [h.me hp] at h4
          have := h.low1; omega
        · exact ⟨y, h1, h2, (R.one he).trans h3⟩
    · by_cases hxt : x ∈ t.stk
      · have := h.edges x hxt hx' y hy hxy; omega
      · have h1 := hq.edges x hx hxt y (h.later.mem (hsub y hy)) hxy
        have h2 := hp.inv.stkF hy
        rw [hall.keep _ h2.2.2 h2.1] at h1; omega
    · rcases List.mem_append.1 hu with hu | hu
      · have h1 := h.seenF u hu
        by_cases hun : u.toNat < g.length
        · rw [hq.later.keep _ hun h1]; exact h1
        · exact absurd (by unfold gi; rw [List.getD_eq_getElem?_getD, List.getElem?_eq_none (by rw [h.inv.len]; omega)]; rfl) h1
      · rw [List.mem_singleton.1 hu]; exact hq.found
    · rcases List.mem_append.1 hu with hu | hu
      · have := h.seenE u hu hus; omega
      · rw [List.mem_singleton.1 hu] at hus
        have := h.later.mem (hsub w hus)
        exact absurd h0 (h.inv.stkF this).1
  · rename_i h0
    split
    · rename_i hd
      dsimp only at h0 hd ⊢
      refine ⟨h.inv, h.later, h.low1, h.low2, h.edges, fun u hu => ?_, fun u hu hus => ?_, h.pos⟩
      · rcases List.mem_append.1 hu with hu | hu
        · exact h.seenF u hu
        · rw [List.mem_singleton.1 hu]; exact h0
      · rcases List.mem_append.1 hu with hu | hu
        · exact h.seenE u hu hus
        · rw [List.mem_singleton.1 hu] at hus
          have := (h.inv.stkF (h.later.mem (hsub w hus))).2.1
          rw [hd] at this; cases this
    · rename_i hd
      dsimp only at h0 hd ⊢
      have hws : w ∈ t.stk := by
        have := (h.inv.onstk w.toNat (by omega)).2 ⟨h0, by simpa using hd⟩
        rwa [Int.toNat_of_nonneg hm.2.1] at this
      refine ⟨h.inv, h.later, by have := h.low1; omega, ?_, fun x hx hx' y hy hxy => by have := h.edges x hx hx' y hy hxy; omega, fun u hu => ?_, fun u hu hus => ?_, by have := h.pos; have := (h.inv.num w.toNat (by omega)).1; omega⟩
      · by_cases hll : low ≤ gi t.fnd w.toNat
        · rw [Int.min_eq_left hll]; exact h.low2
        · rw [Int.min_eq_right (by omega)]; exact ⟨w, hws, rfl, .one he⟩
      · rcases List.mem_append.1 hu with hu | hu
        · exact h.seenF u hu
        · rw [List.mem_singleton.1 hu]; exact h0
      · rcases List.mem_append.1 hu with hu | hu
        · have := h.seenE u hu hus; omega
        · rw [List.mem_singleton.1 hu] at hus ⊢
          have h2 := hp.inv.stkF hus
          rw [← hall.keep _ h2.2.2 h2.1]; omega

theorem Lp.steps {g : Gph} (hg : Val g) {k : Nat} (ih : VS g k) {gray : List Nat} {s : Tj} {v : Int} (hp : Pre g gray s v) (hk : white s.fnd ≤ k + 1) : ∀ {ws seen : List Int} {p : Tj × Int}, Lp g gray s v seen p.1 p.2 → (∀ w ∈ ws, w ∈ row g v.toNat) →
    Lp g gray s v (seen ++ ws) (ws.foldl (tstep (tvisit g k)) p).1 (ws.foldl (tstep (tvisit g k)) p).2
  | [], seen, p, h, _ => by simpa using h
  | w :: ws, seen, p, h, hw => by
    have h1 := h.step hg ih hp hk (hw w (by simp))
    have h2 := Lp.steps hg ih hp hk (ws := ws) (p := tstep (tvisit g k) p w) h1 (fun u hu => hw u (by simp [hu]))
    rw [List.foldl_cons]
    simpa using h2

theorem Lp.close {g : Gph} (hg : Val g) {gray : List Nat} {s : Tj} {v : Int} {t : Tj} {low : Int} (hp : Pre g gray s v) (h : Lp g gray s v (row g v.toNat) t low) :
    Post g gray s v (tclose s.stk.length v (t, low)).1 (tclose s.stk.length v (t, low)).2 := by
  have hme := h.me hp
  obtain ⟨hv0, hvn⟩ := hp.node
  have hvn' : v.toNat < g.length := by omega
  obtain ⟨e, he⟩ := h.later.ext
  have he' : t.stk = s.stk ++ (v :: e) := by rw [he]; simp [topen]
  have hall := hp.laterOpen.trans h.later
  have hi := h.inv
  have hvs : v ∈ t.stk := by rw [he']; simp
  have hc0 := hp.inv.cnt
  have hsorted := hi.sorted
  rw [he'] at hsorted
  have hsep := (List.pairwise_append.1 hsorted).2.2
  have hse : (v :: e).Pairwise fun a b => gi t.fnd a.toNat < gi t.fnd b.toNat := (List.pairwise_append.1 hsorted).2.1
  have hge : ∀ y ∈ v :: e, s.cnt + 1 ≤ gi t.fnd y.toNat := fun y hy => by
    rcases List.mem_cons.1 hy with rfl | hy
    · omega
    · have := (List.pairwise_cons.1 hse).1 y hy; omega
  have hlt : ∀ y ∈ s.stk, gi t.fnd y.toNat = gi s.fnd y.toNat ∧ gi s.fnd y.toNat ≤ s.cnt := fun y hy => by
    have h2 := hp.inv.stkF hy
    exact ⟨hall.keep _ h2.2.2 h2.1, (hp.inv.num _ h2.2.2).2⟩
  have hdis : ∀ y ∈ v :: e, y ∉ s.stk := fun y hy hy' => by
    have := hge y hy; have := hlt y hy'; omega
  have hmem : ∀ y, y ∈ t.stk ↔ y ∈ s.stk ∨ y ∈ v :: e := fun y => by rw [he', List.mem_append]
  have hsame : ∀ a b : Int, 0 ≤ a → 0 ≤ b → a.toNat = b.toNat → a = b := fun a b _ _ h => by omega
  -- the edges of what lies above the node's place
  have hout : ∀ x ∈ v :: e, ∀ y ∈ s.stk, E g x.toNat y.toNat → low ≤ gi s.fnd y.toNat := fun x hx y hy hxy => by
    rcases List.mem_cons.1 hx with rfl | hx'
    · have hyr : y ∈ row g x.toNat := by
        have : ((y.toNat : Nat) : Int) ∈ row g x.toNat := hxy
        rwa [Int.toNat_of_nonneg (hp.inv.stk y hy).1] at this
      exact h.seenE y hyr hy
    · refine h.edges x ((hmem x).2 (.inr hx)) (fun hm => ?_) y hy hxy
      rcases List.mem_append.1 (show x ∈ s.stk ++ [v] from hm) with hm | hm
      · exact hdis x hx hm
      · rw [List.mem_singleton.1 hm] at hx'
        have := (List.pairwise_cons.1 hse).1 v hx'; omega
  have hblack : ∀ x ∈ v :: e, ∀ w, E g x.toNat w → gi t.fnd w ≠ 0 := fun x hx w hxw => by
    by_cases hxv : x = v
    · subst hxv
      have := h.seenF (w : Int) hxw
      simpa using this
    · have h1 := hi.stkF ((hmem x).2 (.inr hx))
      refine hi.black x.toNat w h1.2.2 h1.1 (fun hm => ?_) hxw
      rcases List.mem_append.1 hm with hm | hm
      · have h2 := hp.inv.gr _ hm
        rw [Int.toNat_of_nonneg (hi.stk x ((hmem x).2 (.inr hx))).1] at h2
        exact hdis x hx h2
      · exact hxv (hsame x v (hi.stk x ((hmem x).2 (.inr hx))).1 hv0 (List.mem_singleton.1 hm))
  have hblack' : ∀ u w, u < g.length → gi t.fnd u ≠ 0 → u ∉ gray → E g u w → gi t.fnd w ≠ 0 := fun u w hu h0 hug huw => by
    by_cases e1 : u = v.toNat
    · subst e1; exact hblack v (by simp) w huw
    · exact hi.black u w hu h0 (fun hm => by
        rcases List.mem_append.1 hm with hm | hm
        · exact hug hm
        · exact e1 (List.mem_singleton.1 hm)) huw
  have hgs : ∀ x ∈ gray, (x : Int) ∈ s.stk := hp.inv.gr
  unfold tclose
  split
  · rename_i hlow
    dsimp only at hlow ⊢
    rw [hme] at hlow
    have hdrop : t.stk.drop s.stk.length = v :: e := by rw [he', List.drop_left]
    have htake : t.stk.take s.stk.length = s.stk := by rw [he', List.take_left]
    have hpart : ∀ u : Nat, (tpart s.stk.length t).testBit u = true ↔ (u : Int) ∈ v :: e := fun u => by
      unfold tpart
      rw [hdrop, setOf_bit, decide_eq_true_eq, List.mem_map]
      constructor
      · rintro ⟨a, ha, rfl⟩
        rwa [Int.toNat_of_nonneg (hi.stk a ((hmem a).2 (.inr ha))).1]
      · intro hu; exact ⟨_, hu, by simp⟩
    -- what is above, and what is done, is closed
    have hclosed : ∀ a b : Nat, ((a : Int) ∈ v :: e ∨ t.dn.testBit a = true) → E g a b → ((b : Int) ∈ v :: e ∨ t.dn.testBit b = true) := by
      rintro a b (ha | ha) hab
      · have hab' : E g (a : Int).toNat b := by simpa using hab
        have hfb := hblack a ha b hab'
        cases hd : t.dn.testBit b
        · left
          have hbs := (hi.onstk b (hg.lt hab).2).2 ⟨hfb, hd⟩
          rcases (hmem b).1 hbs with hb | hb
          · have h1 := hout a ha b hb (by simpa using hab)
            have h2 := hlt b hb
            omega
          · exact hb
        · exact .inr rfl
      · exact .inr (hi.dnE a b ha hab)
    have hreach : ∀ b : Nat, R g v.toNat b → ((b : Int) ∈ v :: e ∨ t.dn.testBit b = true) := fun b hb =>
      R.closed (p := fun b => (b : Int) ∈ v :: e ∨ t.dn.testBit b = true) hclosed (.inl (by rw [Int.toNat_of_nonneg hv0]; simp)) hb
    have hto : ∀ y ∈ v :: e, R g v.toNat y.toNat := fun y hy => by
      have := hi.up v.toNat (by simp) y ((hmem y).2 (.inr hy)) (by rw [hme]; exact hge y hy)
      exact this
    have hfrom : ∀ y ∈ v :: e, R g y.toNat v.toNat := fun y hy => by
      obtain ⟨x, hx, _, hyx⟩ := hi.down y ((hmem y).2 (.inr hy))
      have hxr := hreach x ((hto y hy).trans hyx)
      have hxs := hi.gr x hx
      have hxd := (hi.stkF hxs).2.1
      rw [Int.toNat_natCast] at hxd
      rcases hxr with hxr | hxr
      · rcases List.mem_append.1 hx with hx | hx
        · exact absurd (hgs x hx) (hdis _ hxr)
        · rw [List.mem_singleton.1 hx] at hyx; exact hyx
      · rw [hxr] at hxd; cases hxd
    have hvd : t.dn.testBit v.toNat = false := (hi.stkF hvs).2.1
    have hdnR : ∀ a b, t.dn.testBit a = true → R g a b → t.dn.testBit b = true := fun a b ha hab => R.closed (p := fun b => t.dn.testBit b = true) hi.dnE ha hab
    have hscc : tpart s.stk.length t = scc g v.toNat := by
      apply Nat.eq_of_testBit_eq
      intro u
      rw [Bool.eq_iff_iff, hpart, scc_bit hg hvn']
      constructor
      · intro hu; have h1 := hto u hu; have h2 := hfrom u hu; simp at h1 h2; exact ⟨h1, h2⟩
      · rintro ⟨h1, h2⟩
        rcases hreach u h1 with hu | hu
        · exact hu
        · have := hdnR u v.toNat hu h2; rw [hvd] at this; cases this
    have hdn' : ∀ u, (t.dn ||| tpart s.stk.length t).testBit u = true ↔ t.dn.testBit u = true ∨ (u : Int) ∈ v :: e := fun u => by rw [Nat.testBit_or, Bool.or_eq_true, hpart]
    refine ⟨⟨hi.len, hi.cnt, hi.wh, hi.num, fun y hy => ?_, ?_, ?_, fun u hu => ?_, fun u hu => ?_, ?_, fun x hx => ?_, fun a b ha hab => ?_, hblack', fun x hx y hy hxy => ?_, fun y hy => ?_, fun p hp' => ?_, fun u hu => ?_, ?_⟩, ⟨⟨[], by rw [htake]; simp⟩, hall.keep, hall.new, fun u hu => (hdn' u).2 (.inl (hall.dn u hu)), hall.cnt⟩, ?_, by rw [hme]; omega, by rw [hme]; omega, .inl (by rw [hme]; omega), fun x hx hx' => ?_, h.pos⟩
    · dsimp only at hy; rw [htake] at hy; exact hp.inv.stk y hy
    · have h1 := hi.few
      rw [he'] at h1
      rw [htake]
      simp only [List.length_append, List.length_cons, List.length_nil] at h1 ⊢
      omega
    · refine or_lt hi.dnlt (Nat.lt_pow_two_of_testBit _ fun i hi' => ?_)
      cases hb : (tpart s.stk.length t).testBit i
      · rfl
      · have := (hi.stk _ ((hmem _).2 (.inr ((hpart i).1 hb)))).2; omega
    · dsimp only
      rw [htake]
      constructor
      · intro hus
        have h1 := (hi.onstk u hu).1 ((hmem u).2 (.inl hus))
        refine ⟨h1.1, ?_⟩
        cases hb : (t.dn ||| tpart s.stk.length t).testBit u
        · rfl
        · rcases (hdn' u).1 hb with h2 | h2
          · rw [h1.2] at h2; cases h2
          · exact absurd hus (hdis _ h2)
      · rintro ⟨h1, h2⟩
        have h3 : t.dn.testBit u = false := by
          cases hb : t.dn.testBit u
          · rfl
          · rw [(hdn' u).2 (.inl hb)] at h2; cases h2
        rcases (hmem u).1 ((hi.onstk u hu).2 ⟨h1, h3⟩) with h4 | h4
        · exact h4
        · rw [(hdn' u).2 (.inr h4)] at h2; cases h2
    · rcases (hdn' u).1 hu with hu | hu
      · exact hi.dnf u hu
      · have := (hi.stkF ((hmem u).2 (.inr hu))).1; simpa using this
    · dsimp only; rw [htake]; exact (List.pairwise_append.1 hsorted).1
    · dsimp only; rw [htake]; exact hgs x hx
    · rw [hdn']
      rcases (hdn' a).1 ha with ha | ha
      · exact (hclosed a b (.inr ha) hab).symm
      · exact (hclosed a b (.inl ha) hab).symm
    · dsimp only at hy; rw [htake] at hy
      exact hi.up x (List.mem_append.2 (.inl hx)) y ((hmem y).2 (.inl hy)) hxy
    · dsimp only at hy; rw [htake] at hy
      obtain ⟨x, hx, h1, h2⟩ := hp.inv.down y hy
      have h3 := hlt y hy; have h4 := hlt _ (hgs x hx)
      rw [Int.toNat_natCast] at h4
      exact ⟨x, hx, by dsimp only; omega, h2⟩
    · rcases List.mem_append.1 hp' with hp' | hp'
      · obtain ⟨r, h1, h2, h3⟩ := hi.parts p hp'
        exact ⟨r, h1, (hdn' r).2 (.inl h2), h3⟩
      · exact ⟨v.toNat, hvn', (hdn' _).2 (.inr (by rw [Int.toNat_of_nonneg hv0]; simp)), by rw [List.mem_singleton.1 hp', hscc]⟩
    · refine List.mem_append.2 ?_
      rcases (hdn' u).1 hu with hu | hu
      · exact .inl (hi.all u hu)
      · right
        have h1 := hto u hu; have h2 := hfrom u hu
        rw [Int.toNat_natCast] at h1 h2
        rw [hscc, scc_eq hg hvn' h1 h2]; simp
    · refine List.nodup_append.2 ⟨hi.nodup, by simp, fun a ha b hb hab => ?_⟩
      rw [List.mem_singleton.1 hb] at hab
      obtain ⟨r, h1, h2, h3⟩ := hi.parts a ha
      have h4 : scc g r = scc g v.toNat := by rw [hscc] at hab; rw [hab] at h3; exact (by exact_mod_cast h3.symm)
      have h5 : (scc g r).testBit v.toNat = true := by rw [h4, scc_bit hg hvn']; exact ⟨.refl _, .refl _⟩
      have h6 := hdnR r v.toNat h2 ((scc_bit hg h1).1 h5).1
      rw [hvd] at h6; cases h6
    · have := h.later.cnt; simp only [topen] at this; dsimp only; omega
    · dsimp only at hx; rw [htake] at hx; exact absurd hx hx'
  · rename_i hlow
    dsimp only at hlow ⊢
    rw [hme] at hlow
    have hlt' : low < s.cnt + 1 := by have := h.low1; omega
    obtain ⟨y0, hy0, hy0n, hy0r⟩ := h.low2
    refine ⟨⟨hi.len, hi.cnt, hi.wh, hi.num, hi.stk, hi.few, hi.dnlt, hi.onstk, hi.dnf, hi.sorted, fun x hx => hi.gr x (List.mem_append.2 (.inl hx)), hi.dnE, hblack', fun x hx => hi.up x (List.mem_append.2 (.inl hx)), fun y hy => ?_, hi.parts, hi.all, hi.nodup⟩, hall, ?_, by rw [hme]; omega, by rw [hme]; omega, .inr ⟨y0, hy0, hy0n, hy0r⟩, fun x hx hx' => ?_, h.pos⟩
    · obtain ⟨x, hx, h1, h2⟩ := hi.down y hy
      rcases List.mem_append.1 hx with hx | hx
      · exact ⟨x, hx, h1, h2⟩
      · rw [List.mem_singleton.1 hx] at h1 h2
        obtain ⟨x', hx', h3, h4⟩ := hi.down y0 hy0
        rcases List.mem_append.1 hx' with hx' | hx'
        · exact ⟨x', hx', by omega, (h2.trans hy0r).trans h4⟩
        · rw [List.mem_singleton.1 hx'] at h3; omega
    · have := h.later.cnt; simp only [topen] at this; omega
    · rcases (hmem x).1 hx with hx2 | hx2
      · exact absurd hx2 hx'
      · exact hout x hx2

theorem vs_ok {g : Gph} (hg : Val g) : ∀ k, VS g k
  | 0 => fun gray s v hp hk => by
    have := white_pos (l := s.fnd) (i := v.toNat) (by rw [hp.inv.len]; have := hp.node; omega) hp.new
    omega
  | k + 1 => fun gray s v hp hk => by
    have h := hp.start.steps hg (vs_ok hg k) hp hk (ws := row g v.toNat) (p := (topen s v, s.cnt + 1)) (fun w hw => hw)
    rw [List.nil_append] at h
    exact h.close hg hp

end Go.Cm.Gr
end

section
/- The typed pure data of an abstract machine over the kit's programs: types of data, how data lie in memory, and that what lies in blocks that nobody writes stays. No program is in sight here. -/
namespace Go.Cm
open Go.RowKit

/-- The types of pure data. -/
inductive Ty where
  | int (k : IntKind)
  | bool
  | str
  | unit
  | pair (a b : Ty)
  | st (t : Ty)
  | arr (n : Nat) (t : Ty)
  | slice (t : Ty)
  | ptr (t : Ty)
  | opt (t : Ty)
  | func
  deriving DecidableEq

@[reducible] def Ty.D : Ty → Type
  | .int _ => Int
  | .bool => Bool
  | .str => List UInt8
  | .unit => Unit
  | .pair a b => a.D × b.D
  | .st t => t.D
  | .arr _ t => List t.D
  | .slice t => List t.D
  | .ptr t => t.D
  | .opt t => Option t.D
  | .func => Unit

def Ty.w : Ty → Nat
  | .unit => 0
  | .pair a b => a.w + b.w
  | .st t => t.w
  | .arr n t => n * t.w
  | _ => 1

def Ty.isAgg : Ty → Bool
  | .st _ | .arr _ _ => true
  | _ => false

/-- A list of cells holds a list of data, one after the other. -/
def repL {α : Type} (R : List Value → α → Prop) : List Value → List α → Prop
  | cs, [] => cs = []
  | cs, x :: xs => ∃ c d, cs = c ++ d ∧ R c x ∧ repL R d xs

/-- Cells lie at a place, in a block that is not hot. -/
def LiesAt (H : Nat → Prop) (w : World) (b o : Nat) (cells : List Value) : Prop :=
  (cells ≠ [] → ¬ H b) ∧ ∀ j, j < cells.length → w.cell? ⟨b, o + j, none⟩ = cells[j]?

def Ty.rep (H : Nat → Prop) (w : World) : (t : Ty) → List Value → t.D → Prop
  | .int k, cs, x => cs = [.int k x]
  | .bool, cs, x => cs = [.bool x]
  | .str, cs, x => cs = [.string ⟨x.toArray⟩]
  | .unit, cs, _ => cs = []
  | .pair a b, cs, x => ∃ c d, cs = c ++ d ∧ a.rep H w c x.1 ∧ b.rep H w d x.2
  | .st t, cs, x => t.rep H w cs x
  | .arr n t, cs, x => x.length = n ∧ repL (fun c y => t.rep H w c y) cs x
  | .slice t, cs, xs => (cs = [.slice none 0 0] ∧ xs = []) ∨
      ∃ b o p cap cells, cs = [.slice (some ⟨b, o, p⟩) xs.length cap] ∧ (xs ≠ [] → p = none) ∧ xs.length ≤ cap ∧ cap ≤ maxLen ∧
        repL (fun c y => t.rep H w c y) cells xs ∧ LiesAt H w b o cells
  | .ptr t, cs, x => ∃ b o cells, cs = [.pointer (some ⟨b, o, none⟩)] ∧ t.rep H w cells x ∧ LiesAt H w b o cells
  | .func, cs, _ => cs = [.nilFunc]
  | .opt t, cs, x => match x with
      | none => cs = [.pointer none]
      | some y => ∃ b o cells, cs = [.pointer (some ⟨b, o, none⟩)] ∧ t.rep H w cells y ∧ LiesAt H w b o cells

/-- What is not hot stays. -/
def Stays (H : Nat → Prop) (w w' : World) : Prop := ∀ b, ¬ H b → (∃ o : Obj, w.heap[b]? = some o ∧ o.isCells = true) → w'.heap[b]? = w.heap[b]?

theorem cells_lt {w : World} {b : Nat} (h : ∃ o : Obj, w.heap[b]? = some o ∧ o.isCells = true) : b < w.heap.size := by
  obtain ⟨o, h, _⟩ := h
  exact (Array.getElem?_eq_some_iff.1 h).1

theorem Stays.refl (H : Nat → Prop) (w : World) : Stays H w w := fun _ _ _ => rfl

theorem LiesAt.lt {H : Nat → Prop} {w : World} {b o : Nat} {cells : List Value} (h : LiesAt H w b o cells) (hne : cells ≠ []) : b < w.heap.size := by
  cases cells with
  | nil => exact absurd rfl hne
  | cons c cs =>
    have := h.2 0 (by simp)
    exact block_lt_of_cell (a := ⟨b, o + 0, none⟩) (v := c) (by simpa using this)

theorem LiesAt.isCells {H : Nat → Prop} {w : World} {b o : Nat} {cells : List Value} (h : LiesAt H w b o cells) (hne : cells ≠ []) : ∃ o : Obj, w.heap[b]? = some o ∧ o.isCells = true := by
  cases cells with
  | nil => exact absurd rfl hne
  | cons c cs =>
    have := h.2 0 (by simp)
    exact cells_of_cell (a := ⟨b, o + 0, none⟩) (v := c) (by simpa using this)

theorem LiesAt.stays {H : Nat → Prop} {w w' : World} {b o : Nat} {cells : List Value} (h : LiesAt H w b o cells) (hs : Stays H w w') : LiesAt H w' b o cells := by
  refine ⟨h.1, fun j hj => ?_⟩
  have hne : cells ≠ [] := by intro e; simp [e] at hj
  have := hs b (h.1 hne) (h.isCells hne)
  rw [← h.2 j hj]
  exact World.cell?_of_block (a := ⟨b, o + j, none⟩) this

theorem LiesAt.hot {H H' : Nat → Prop} {w : World} {b o : Nat} {cells : List Value} (h : LiesAt H w b o cells) (hh : ∀ b, b < w.heap.size → H' b → H b) : LiesAt H' w b o cells :=
  ⟨fun hne hb => h.1 hne (hh b (h.lt hne) hb), h.2⟩

theorem repL_map {α : Type} {R R' : List Value → α → Prop} : ∀ {xs : List α} {cs : List Value}, (∀ c x, x ∈ xs → R c x → R' c x) → repL R cs xs → repL R' cs xs
  | [], _, _, h => h
  | x :: xs, _, hR, ⟨c, d, e, h1, h2⟩ => ⟨c, d, e, hR c x (by simp) h1, repL_map (fun c y hy => hR c y (by simp [hy])) h2⟩

theorem Ty.rep_stays {H : Nat → Prop} {w w' : World} (hs : Stays H w w') : ∀ (t : Ty) {cs : List Value} {x : t.D}, t.rep H w cs x → t.rep H w' cs x
  | .int _, _, _, h => h
  | .bool, _, _, h => h
  | .str, _, _, h => h
  | .func, _, _, h => h
  | .unit, _, _, h => h
  | .pair a b, _, _, ⟨c, d, e, h1, h2⟩ => ⟨c, d, e, a.rep_stays hs h1, b.rep_stays hs h2⟩
  | .st t, _, _, h => t.rep_stays hs (cs := _) h
  | .arr _ t, _, _, ⟨hl, h⟩ => ⟨hl, repL_map (fun _ _ _ h => t.rep_stays hs h) h⟩
  | .slice t, _, _, h => by
    rcases h with h | ⟨b, o, p, cap, cells, e, hp, h1, h2, h3, h4⟩
    · exact .inl h
    · exact .inr ⟨b, o, p, cap, cells, e, hp, h1, h2, repL_map (fun _ _ _ h => t.rep_stays hs h) h3, h4.stays hs⟩
  | .ptr t, _, _, ⟨b, o, cells, e, h1, h2⟩ => ⟨b, o, cells, e, t.rep_stays hs h1, h2.stays hs⟩
  | .opt t, _, x, h => by
    cases x with
    | none => exact h
    | some y => obtain ⟨b, o, cells, e, h1, h2⟩ := h; exact ⟨b, o, cells, e, t.rep_stays hs h1, h2.stays hs⟩

theorem Ty.rep_hot {H H' : Nat → Prop} {w : World} (hh : ∀ b, b < w.heap.size → H' b → H b) : ∀ (t : Ty) {cs : List Value} {x : t.D}, t.rep H w cs x → t.rep H' w cs x
  | .int _, _, _, h => h
  | .bool, _, _, h => h
  | .str, _, _, h => h
  | .func, _, _, h => h
  | .unit, _, _, h => h
  | .pair a b, _, _, ⟨c, d, e, h1, h2⟩ => ⟨c, d, e, a.rep_hot hh h1, b.rep_hot hh h2⟩
  | .st t, _, _, h => t.rep_hot hh (cs := _) h
  | .arr _ t, _, _, ⟨hl, h⟩ => ⟨hl, repL_map (fun _ _ _ h => t.rep_hot hh h) h⟩
  | .slice t, _, _, h => by
    rcases h with h | ⟨b, o, p, cap, cells, e, hp, h1, h2, h3, h4⟩
    · exact .inl h
    · exact .inr ⟨b, o, p, cap, cells, e, hp, h1, h2, repL_map (fun _ _ _ h => t.rep_hot hh h) h3, h4.hot hh⟩
  | .ptr t, _, _, ⟨b, o, cells, e, h1, h2⟩ => ⟨b, o, cells, e, t.rep_hot hh h1, h2.hot hh⟩
  | .opt t, _, x, h => by
    cases x with
    | none => exact h
    | some y => obtain ⟨b, o, cells, e, h1, h2⟩ := h; exact ⟨b, o, cells, e, t.rep_hot hh h1, h2.hot hh⟩

theorem repL_length {α : Type} {R : List Value → α → Prop} {n : Nat} (hR : ∀ c x, R c x → c.length = n) : ∀ {xs : List α} {cs : List Value}, repL R cs xs → cs.length = xs.length * n
  | [], _, h => by simp [repL] at h; simp [h]
  | x :: xs, _, ⟨c, d, e, h1, h2⟩ => by
    rw [e, List.length_append, hR c x h1, repL_length hR h2, List.length_cons, Nat.succ_mul, Nat.add_comm]

theorem Ty.rep_length {H : Nat → Prop} {w : World} : ∀ (t : Ty) {cs : List Value} {x : t.D}, t.rep H w cs x → cs.length = t.w
  | .int _, _, _, h => by rw [show _ = _ from h]; rfl
  | .bool, _, _, h => by rw [show _ = _ from h]; rfl
  | .str, _, _, h => by rw [show _ = _ from h]; rfl
  | .func, _, _, h => by rw [show _ = _ from h]; rfl
  | .unit, _, _, h => by rw [show _ = _ from h]; rfl
  | .pair a b, _, _, ⟨c, d, e, h1, h2⟩ => by rw [e, List.length_append, a.rep_length h1, b.rep_length h2]; rfl
  | .st t, _, _, h => t.rep_length (cs := _) h
  | .arr n t, _, _, ⟨hl, h⟩ => by rw [repL_length (fun _ _ h => t.rep_length h) h, hl]; rfl
  | .slice t, _, _, h => by
    rcases h with ⟨e, _⟩ | ⟨b, o, p, cap, cells, e, _⟩ <;> rw [e] <;> rfl
  | .ptr t, _, _, ⟨b, o, cells, e, h1, h2⟩ => by rw [e]; rfl
  | .opt t, _, x, h => by
    cases x with
    | none => rw [show _ = _ from h]; rfl
    | some y => obtain ⟨b, o, cells, e, h1, h2⟩ := h; rw [e]; rfl

theorem repL_append {α : Type} {R : List Value → α → Prop} : ∀ {xs ys : List α} {cs ds : List Value}, repL R cs xs → repL R ds ys → repL R (cs ++ ds) (xs ++ ys)
  | [], _, _, _, h, h' => by simp [repL] at h; simpa [h] using h'
  | x :: xs, _, _, _, ⟨c, d, e, h1, h2⟩, h' => ⟨c, d ++ _, by rw [e, List.append_assoc], h1, repL_append h2 h'⟩

theorem repL_one {α : Type} {R : List Value → α → Prop} {c : List Value} {x : α} (h : R c x) : repL R c [x] := ⟨c, [], by simp, h, rfl⟩

/-- The cells of one element. -/
theorem repL_get {α : Type} {R : List Value → α → Prop} {n : Nat} (hR : ∀ c x, R c x → c.length = n) : ∀ {xs : List α} {cs : List Value}, repL R cs xs → ∀ i (h : i < xs.length), R ((cs.drop (i * n)).take n) xs[i]
  | x :: xs, _, ⟨c, d, e, h1, h2⟩, 0, _ => by
    rw [e]; simp only [Nat.zero_mul, List.drop_zero, List.getElem_cons_zero]
    rw [← hR c x h1, List.take_left]; exact h1
  | x :: xs, _, ⟨c, d, e, h1, h2⟩, i + 1, h => by
    have hi : i < xs.length := by simpa using h
    have := repL_get hR h2 i hi
    rw [e]
    simp only [List.getElem_cons_succ]
    have hd : (c ++ d).drop ((i + 1) * n) = d.drop (i * n) := by
      rw [Nat.succ_mul, Nat.add_comm, ← List.drop_drop, ← hR c x h1, List.drop_left]
    rw [hd]; exact this

theorem repL_drop {α : Type} {R : List Value → α → Prop} {n : Nat} (hR : ∀ c x, R c x → c.length = n) : ∀ (i : Nat) {xs : List α} {cs : List Value}, repL R cs xs → repL R (cs.drop (i * n)) (xs.drop i)
  | 0, _, _, h => by simpa using h
  | i + 1, [], _, h => by simp [repL] at h; simp [h, repL]
  | i + 1, x :: xs, _, ⟨c, d, e, h1, h2⟩ => by
    have := repL_drop hR i h2
    rw [e]
    have hd : (c ++ d).drop ((i + 1) * n) = d.drop (i * n) := by
      rw [Nat.succ_mul, Nat.add_comm, ← List.drop_drop, ← hR c x h1, List.drop_left]
    rw [hd]; simpa using this

theorem repL_take {α : Type} {R : List Value → α → Prop} {n : Nat} (hR : ∀ c x, R c x → c.length = n) : ∀ (i : Nat) {xs : List α} {cs : List Value}, repL R cs xs → repL R (cs.take (i * n)) (xs.take i)
  | 0, _, _, h => by simp [repL]
  | i + 1, [], _, h => by simp [repL] at h; simp [h, repL]
  | i + 1, x :: xs, _, ⟨c, d, e, h1, h2⟩ => by
    have := repL_take hR i h2
    rw [e]
    have hd : (c ++ d).take ((i + 1) * n) = c ++ d.take (i * n) := by
      rw [Nat.succ_mul, Nat.add_comm, ← hR c x h1, List.take_append]
      simp [List.take_of_length_le]
    rw [hd]
    exact ⟨c, d.take (i * n), rfl, h1, this⟩

/-- One element is exchanged. -/
theorem repL_set {α : Type} {R : List Value → α → Prop} {n : Nat} (hR : ∀ c x, R c x → c.length = n) {xs : List α} {cs : List Value} (h : repL R cs xs) (i : Nat) (hi : i < xs.length) {c : List Value} {x : α} (hc : R c x) :
    repL R (cs.take (i * n) ++ (c ++ cs.drop ((i + 1) * n))) (xs.set i x) := by
  rw [List.set_eq_take_append_cons_drop]
  simp only [hi, if_true]
  exact repL_append (repL_take hR i h) ⟨c, _, rfl, hc, repL_drop hR (i + 1) h⟩

theorem repL_replicate {α : Type} {R : List Value → α → Prop} {c : List Value} {x : α} (h : R c x) : ∀ n, repL R (List.replicate n c).flatten (List.replicate n x)
  | 0 => rfl
  | n + 1 => ⟨c, (List.replicate n c).flatten, by simp [List.replicate_succ], h, repL_replicate h n⟩

end Go.Cm
end

section
/- The abstract machine: abstract values and states, and what each operation of a program does to them. -/
namespace Go.Cm

/-- What a function has captured: pure data, or the address of a variable that the call owns. -/
inductive CV where
  | z (t : Ty) (x : t.D)
  | p (id : Nat)

/-- A value of one slot or cell; 'ownW': the tail of an array that the call owns; 'ownM': a table of rows that the call owns, 'ownA' a place in it, 'ownR' one of its rows, 'ownB' a place in a row; 'fn': a function with what it has captured. -/
inductive LV where
  | z (t : Ty) (x : t.D)
  | ownS (id : Nat)
  | ownP (id off : Nat)
  | ownE (id w i : Nat)
  | ownW (id w i : Nat)
  | ownM (id : Nat)
  | ownA (id i : Nat)
  | ownR (id j : Nat)
  | ownB (id j w k : Nat)
  | fn (f : FuncId) (caps : List CV)
  | val (v : Value)
  | junk

/-- Where the numbers of what is lent begin, in the called function. -/
def ioB : Nat := 10000000

/-- What a slot holds: one value; a struct told cell by cell; several results; a value that is known only where a Bool is true. -/
inductive AV where
  | l (x : LV)
  | agg (cs : List LV)
  | tup (xs : List LV)
  | g (φ : Bool) (x : LV)
  | gt (φ : Bool) (xs : List LV)

inductive OObj where
  | box (T : TypeId) (cs : List LV)
  | arr (t : Ty) (T : TypeId) (xs : List t.D)
  | win (t : Ty) (T : TypeId) (pre xs post : List t.D)
  | que (t : Ty) (T : TypeId) (xs : List t.D)
  | mat (t : Ty) (T E : TypeId) (rows : List (Option (List t.D))) (idx : List (Option Nat))

structure AState where
  env : List (Nat × AV)
  own : List (Nat × OObj)

/-- A result of a call: pure data, or an array that nobody else knows. -/
inductive RV where
  | z (t : Ty) (x : t.D)
  | val (v : Value)
  | own (t : Ty) (T : TypeId) (xs : List t.D)
  | fn (f : FuncId) (caps : List CV)

/-- A contract: of the arguments, and of what is lent for the call; it tells the condition, the results, and what is lent as it is then. -/
abbrev Con := List LV → List OObj → Option (Prop × List RV × List OObj)

/-- What lies below: blocks that nobody writes, and what they hold. -/
structure Base where
  n : Nat
  heap : Nat → Option Obj

/-- The context of a walk: the types' table, the callees' contracts, the slots that shall be owned, the number of slots. -/
structure Tab where
  types : List (TypeId × Ty)
  elems : List (TypeId × TypeId)
  cons : List (FuncId × Con)
  io : List (FuncId × List Nat) := []
  hint : List Nat
  N : Nat
  keep : List Nat := []
  free : List Nat := []
  frees : List (FuncId × List Nat) := []
  base : Base := ⟨0, fun _ => none⟩

/-- May the array's header turn? Those of the call's own may; of those that are lent, some may. -/
def Tab.mayMove (T : Tab) (id : Nat) : Bool := id < ioB || T.free.contains id

/-- May the slot be written? -/
def Tab.ok (T : Tab) (d : Nat) : Bool := d < T.N && !T.keep.contains d

theorem Tab.ok_lt {T : Tab} {d : Nat} (h : T.ok d = true) : d < T.N := by
  simp only [Tab.ok, Bool.and_eq_true, decide_eq_true_eq] at h; exact h.1

def get? {α : Type} : List (Nat × α) → Nat → Option α
  | [], _ => none
  | (k, x) :: r, n => if k = n then some x else get? r n

def del {α : Type} : List (Nat × α) → Nat → List (Nat × α)
  | [], _ => []
  | (k, x) :: r, n => if k = n then del r n else (k, x) :: del r n

def upd {α : Type} : List (Nat × α) → Nat → α → List (Nat × α)
  | [], _, _ => []
  | (k, x) :: r, n, y => if k = n then (k, y) :: r else (k, x) :: upd r n y

def AState.put (s : AState) (d : Nat) (v : AV) : AState := { s with env := (d, v) :: del s.env d }

/-- Letters as numbers, and back. -/
def bytesOf (s : List UInt8) : List Int := s.map fun b => (b.toNat : Int)
def strOf (xs : List Int) : List UInt8 := xs.map fun n => UInt8.ofNat n.toNat

/-- A literal. -/
def constLV : Value → LV
  | .int k n => .z (.int k) n
  | .bool b => .z .bool b
  | .string s => .z .str s.data.toList
  | v => .val v

def opnd (s : AState) : Operand → Option AV
  | .tmp t => get? s.env t
  | .const v => some (.l (constLV v))
  | .func f => some (.l (.val (.func (.func f) #[] #[])))
  | .global _ => none

/-! Structs: the fields of a chain of pairs. -/
def Ty.fieldTy : Nat → Ty → Ty
  | 0, .pair a _ => a
  | 0, t => t
  | n + 1, .pair _ b => b.fieldTy n
  | _ + 1, t => t

def Ty.fieldOf : (n : Nat) → (t : Ty) → t.D → (t.fieldTy n).D
  | 0, .pair _ _, x => x.1
  | 0, .int _, x | 0, .bool, x | 0, .str, x | 0, .unit, x | 0, .st _, x | 0, .arr _ _, x | 0, .slice _, x | 0, .ptr _, x | 0, .opt _, x | 0, .func, x => x
  | n + 1, .pair _ b, x => b.fieldOf n x.2
  | _ + 1, .int _, x | _ + 1, .bool, x | _ + 1, .str, x | _ + 1, .unit, x | _ + 1, .st _, x | _ + 1, .arr _ _, x | _ + 1, .slice _, x | _ + 1, .ptr _, x | _ + 1, .opt _, x | _ + 1, .func, x => x

def Ty.fields : Ty → List Ty
  | .pair a b => a :: b.fields
  | .unit => []
  | t => [t]

/-- Where the field begins. -/
def Ty.fieldOff : Nat → Ty → Nat
  | n + 1, .pair a b => a.w + b.fieldOff n
  | _, _ => 0

/-- The zero of a type, where it has one. -/
def Ty.zero : (t : Ty) → Option t.D
  | .int _ => some (0 : Int)
  | .bool => some false
  | .str => some []
  | .unit => some ()
  | .pair a b => match a.zero, b.zero with
    | some x, some y => some (x, y)
    | _, _ => none
  | .st t => t.zero
  | .arr n t => match t.zero with
    | some x => some (List.replicate n x)
    | none => none
  | .slice _ => some []
  | .ptr _ => none
  | .opt _ => some none
  | .func => none

/-- The cells of a type's zero. -/
def Ty.zeroCells : Ty → List Value
  | .int k => [.int k 0]
  | .bool => [.bool false]
  | .str => [.string ⟨#[]⟩]
  | .unit => []
  | .pair a b => a.zeroCells ++ b.zeroCells
  | .st t => t.zeroCells
  | .arr n t => (List.replicate n t.zeroCells).flatten
  | .slice _ => [.slice none 0 0]
  | .ptr _ => [.pointer none]
  | .opt _ => [.pointer none]
  | .func => [.nilFunc]

/-- Some value of the type, to be had beyond a list's end. -/
def Ty.dflt : (t : Ty) → t.D
  | .int _ => (0 : Int)
  | .bool => false
  | .str => []
  | .unit => ()
  | .pair a b => (a.dflt, b.dflt)
  | .st t => t.dflt
  | .arr _ _ => []
  | .slice _ => []
  | .ptr t => t.dflt
  | .opt _ => none
  | .func => ()

def nth (t : Ty) (xs : List t.D) (i : Int) : t.D := xs.getD i.toNat t.dflt

/-- The cells of pure data, each with a type of one cell. -/
def Ty.cells : (t : Ty) → t.D → List LV
  | .int k, x => [.z (.int k) x]
  | .bool, x => [.z .bool x]
  | .str, x => [.z .str x]
  | .unit, _ => []
  | .pair a b, x => a.cells x.1 ++ b.cells x.2
  | .st t, x => t.cells x
  | .arr _ t, x => x.flatMap t.cells
  | .slice t, x => [.z (.slice t) x]
  | .ptr t, x => [.z (.ptr t) x]
  | .opt t, x => [.z (.opt t) x]
  | .func, _ => [.val .nilFunc]

def LV.cells : LV → Option (List LV)
  | .z t x => some (t.cells x)
  | .val v => if v.oneCell' then some [.val v] else none
  | .junk => none
  | v => some [v]

def AV.cells : AV → Option (List LV)
  | .l x => x.cells
  | .agg cs => some cs
  | _ => none

def isNilS : Value → Bool
  | .slice a n c => a.isNone && n == 0 && c == 0
  | _ => false
def isNilP : Value → Bool
  | .pointer a => a.isNone
  | _ => false

/-- A value as pure data of a type. -/
def LV.get (t : Ty) : LV → Option t.D
  | .z u x => if h : u = t then some (h ▸ x) else none
  | .val v => match t with
    | .slice _ => if isNilS v then some [] else none
    | .opt _ => if isNilP v then some none else none
    | _ => none
  | _ => none

/-- Cells as pure data of a type, and what is left of them. -/
def Ty.join : (t : Ty) → List LV → Option (t.D × List LV)
  | .unit, l => some ((), l)
  | .pair a b, l => match a.join l with
    | some (x, l) => match b.join l with
      | some (y, l) => some ((x, y), l)
      | none => none
    | none => none
  | .st t, l => t.join l
  | .arr _ _, _ => none
  | .func, _ => none
  | .int k, c :: l => match c.get (.int k) with
    | some x => some (x, l)
    | none => none
  | .bool, c :: l => match c.get .bool with
    | some x => some (x, l)
    | none => none
  | .str, c :: l => match c.get .str with
    | some x => some (x, l)
    | none => none
  | .slice t, c :: l => match c.get (.slice t) with
    | some x => some (x, l)
    | none => none
  | .ptr t, c :: l => match c.get (.ptr t) with
    | some x => some (x, l)
    | none => none
  | .opt t, c :: l => match c.get (.opt t) with
    | some x => some (x, l)
    | none => none
  | _, [] => none

/-- A slot's value as pure data of a type. -/
def AV.get (t : Ty) : AV → Option t.D
  | .l x => x.get t
  | .agg cs => match t.isAgg, t.join cs with
    | true, some (x, []) => some x
    | _, _ => none
  | _ => none

/-- Is a cell told otherwise than as pure data? -/
def LV.names : LV → Bool
  | .z _ _ => false
  | _ => true

def CV.isOf (id : Nat) : CV → Bool
  | .p i => i == id
  | .z _ _ => false

def CV.lv : CV → LV
  | .z t x => .z t x
  | .p id => .ownP id 0

def LV.isOf (id : Nat) : LV → Bool
  | .ownS i | .ownP i _ | .ownE i _ _ | .ownW i _ _ | .ownM i | .ownA i _ | .ownR i _ | .ownB i _ _ _ => i == id
  | .fn _ caps => caps.any (CV.isOf id)
  | _ => false

/-- What is read out of cells: pure data where they all are pure, else told cell by cell. -/
def readCells (t : Ty) (cs : List LV) : Option AV :=
  match t.isAgg with
  | true => match cs.any LV.names, t.join cs with
    | false, some (x, []) => some (.l (.z t x))
    | _, _ => some (.agg cs)
  | false => match cs with
    | [c] => some (.l c)
    | _ => none

/-! The operations that make and write nothing. -/
def intBin (op : BinOp) (k : IntKind) (a : Int) (k' : IntKind) (b : Int) : Option (Prop × LV) :=
  match op with
  | .shl => some (0 ≤ b, .z (.int k) (k.wrap (a * 2 ^ (min b.toNat k.bits))))
  | .shr => some (0 ≤ b, .z (.int k) (a.fdiv (2 ^ (min b.toNat k.bits))))
  | .add => if k = k' then some (True, .z (.int k) (k.wrap (a + b))) else none
  | .sub => if k = k' then some (True, .z (.int k) (k.wrap (a - b))) else none
  | .mul => if k = k' then some (True, .z (.int k) (k.wrap (a * b))) else none
  | .quo => if k = k' then some (b ≠ 0, .z (.int k) (k.wrap (a.tdiv b))) else none
  | .rem => if k = k' then some (b ≠ 0, .z (.int k) (a.tmod b)) else none
  | .and => if k = k' then some (True, .z (.int k) (k.wrap (BitVec.ofInt k.bits a &&& BitVec.ofInt k.bits b).toNat)) else none
  | .or => if k = k' then some (True, .z (.int k) (k.wrap (BitVec.ofInt k.bits a ||| BitVec.ofInt k.bits b).toNat)) else none
  | .xor => if k = k' then some (True, .z (.int k) (k.wrap (BitVec.ofInt k.bits a ^^^ BitVec.ofInt k.bits b).toNat)) else none
  | .andNot => if k = k' then some (True, .z (.int k) (k.wrap (BitVec.ofInt k.bits a &&& ~~~BitVec.ofInt k.bits b).toNat)) else none
  | .eql => if k = k' then some (True, .z .bool (a == b)) else none
  | .neq => if k = k' then some (True, .z .bool (a != b)) else none
  | .lss => if k = k' then some (True, .z .bool (a < b)) else none
  | .leq => if k = k' then some (True, .z .bool (a ≤ b)) else none
  | .gtr => if k = k' then some (True, .z .bool (b < a)) else none
  | .geq => if k = k' then some (True, .z .bool (b ≤ a)) else none

def strBin (op : BinOp) (a b : List UInt8) : Option (Prop × LV) :=
  match op with
  | .add => some (a.length + b.length ≤ maxLen, .z .str (a ++ b))
  | .eql => some (True, .z .bool (a == b))
  | .neq => some (True, .z .bool (a != b))
  | _ => none

def boolBin (op : BinOp) (a b : Bool) : Option (Prop × LV) :=
  match op with
  | .eql => some (True, .z .bool (a == b))
  | .neq => some (True, .z .bool (a != b))
  | _ => none

def binLV (u : Option Ty) (op : BinOp) (x y : LV) : Option (Prop × LV) :=
  match x, y with
  | .z (.int k) a, .z (.int k') b => intBin op k a k' b
  | .z .str a, .z .str b => strBin op a b
  | .z .bool a, .z .bool b => match u with
    | some .bool => boolBin op a b
    | _ => none
  | .z (.opt _) a, .val v => match isNilP v, op, u with
    | true, .eql, some (.opt _) => some (True, .z .bool a.isNone)
    | true, .neq, some (.opt _) => some (True, .z .bool a.isSome)
    | _, _, _ => none
  | _, _ => none

def unLV (op : UnOp) (x : LV) : Option LV :=
  match op, x with
  | .neg, .z (.int k) a => some (.z (.int k) (k.wrap (0 - a)))
  | .not, .z .bool b => some (.z .bool (!b))
  | _, _ => none

/-- How long a list may grow. -/
def Roomy (w n : Nat) : Prop := n * (24 * w) ≤ 70368744177664

/-- Which row lies at a place of a table. -/
def rowIx (idx : List (Option Nat)) (i : Nat) : Option Nat := (idx[i]?).getD none
/-- A row of a table; rows that were appended to are gone, and stand elsewhere. -/
def rowOf {α : Type} (rows : List (Option (List α))) (j : Nat) : List α := ((rows[j]?).getD none).getD []
def live {α : Type} (rows : List (Option (List α))) (j : Nat) : Bool := ((rows[j]?).getD none).isSome

/-- The length of a slice or a string. -/
def lenLV (own : List (Nat × OObj)) (u : Ty) : LV → Option LV
  | .z (.slice _) xs => match u with
    | .slice _ => some (.z (.int .i64) (xs.length : Int))
    | _ => none
  | .z .str s => match u with
    | .str => some (.z (.int .i64) (s.length : Int))
    | _ => none
  | .ownS id => match get? own id, u with
    | some (.arr _ _ xs), .slice _ => some (.z (.int .i64) (xs.length : Int))
    | some (.win _ _ _ xs _), .slice _ => some (.z (.int .i64) (xs.length : Int))
    | some (.que _ _ xs), .slice _ => some (.z (.int .i64) (xs.length : Int))
    | _, _ => none
  | .ownW id _ i => match get? own id, u with
    | some (.arr _ _ xs), .slice _ => some (.z (.int .i64) ((xs.length - i : Nat) : Int))
    | _, _ => none
  | .ownM id => match get? own id, u with
    | some (.mat _ _ _ _ idx), .slice _ => some (.z (.int .i64) (idx.length : Int))
    | _, _ => none
  | .val v => match u with
    | .slice _ => if isNilS v then some (.z (.int .i64) 0) else none
    | _ => none
  | _ => none

def intArg (d : Int) : Option LV → Option Int
  | none => some d
  | some (.z (.int _) a) => some a
  | _ => none

/-- An index within a length. -/
@[reducible] def idxC (n : Int) (m : Nat) : Prop := 0 ≤ n ∧ n < m

/-- Bounds of a part. -/
@[reducible] def cutC (l h : Int) (n : Nat) : Prop := 0 ≤ l ∧ l ≤ h ∧ h ≤ n
@[reducible] def cut3C (l h m : Int) (n : Nat) : Prop := 0 ≤ l ∧ l ≤ h ∧ h ≤ m ∧ m ≤ n

/-- A slice expression over data. -/
def sliceLV (u : Ty) (x : LV) (low high max : Option LV) : Option (Prop × LV) :=
  match x, u with
  | .z (.slice t) xs, .slice v => if t = v then
      match intArg 0 low, intArg xs.length high, max with
      | some l, some h, none => some (cutC l h xs.length, .z (.slice t) ((xs.take h.toNat).drop l.toNat))
      | some l, some h, some (.z (.int _) m) => match high with
        | some _ => some (cut3C l h m xs.length, .z (.slice t) ((xs.take h.toNat).drop l.toNat))
        | none => none
      | _, _, _ => none
    else none
  | .z .str xs, .str => match intArg 0 low, intArg xs.length high, max with
    | some l, some h, none => some (cutC l h xs.length, .z .str ((xs.take h.toNat).drop l.toNat))
    | _, _, _ => none
  | _, _ => none

def leaf : Option AV → Option LV
  | some (.l x) => some x
  | _ => none

def optLeaf (s : AState) : Option Operand → Option (Option LV)
  | none => some none
  | some o => match leaf (opnd s o) with
    | some x => some (some x)
    | none => none

/-- The builtins that make and write nothing. -/
def pureCall (T : Tab) (s : AState) (b : Builtin) (l : List Operand) (types : List TypeId) : Option (Prop × AV) :=
  match b with
  | .len => match l, types with
    | [x], [ty] => match leaf (opnd s x), get? T.types ty with
      | some (.ownR id j), some (.slice _) => match get? s.own id with
        | some (.mat _ _ _ rows _) => some (live rows j = true, .l (.z (.int .i64) ((rowOf rows j).length : Int)))
        | _ => none
      | some a, some u => match lenLV s.own u a with
        | some v => some (True, .l v)
        | none => none
      | _, _ => none
    | _, _ => none
  | .min => match l with
    | [x, y] => match leaf (opnd s x), leaf (opnd s y) with
      | some (.z (.int k) a), some (.z (.int k') b) => if k = k' then some (True, .l (.z (.int k) (min a b))) else none
      | _, _ => none
    | _ => none
  | .max => match l with
    | [x, y] => match leaf (opnd s x), leaf (opnd s y) with
      | some (.z (.int k) a), some (.z (.int k') b) => if k = k' then some (True, .l (.z (.int k) (max a b))) else none
      | _, _ => none
    | _ => none
  | _ => none

/-- What a function captures. -/
def capsOf (s : AState) : List Operand → Option (List CV)
  | [] => some []
  | x :: r => match leaf (opnd s x), capsOf s r with
    | some (.z t a), some cs => some (.z t a :: cs)
    | some (.ownP id 0), some cs => some (.p id :: cs)
    | _, _ => none

/-- Slices of letters. -/
def u8Slice (T : Tab) (t : TypeId) : Bool := match get? T.types t, get? T.elems t with
  | some (.slice (.int .u8)), some E => match get? T.types E with
    | some (.int .u8) => true
    | _ => false
  | _, _ => false

/-- The letters of a slice. -/
def convOwn (own : List (Nat × OObj)) : LV → Option (List UInt8)
  | .ownS id => match get? own id with
    | some (.arr (.int .u8) _ xs) => some (strOf xs)
    | _ => none
  | .z (.slice (.int .u8)) xs => some (strOf xs)
  | _ => none

def convLV (u8 : Bool) (l : Option (List UInt8)) (src dst : Option Ty) (v : LV) : Option (Prop × AV) :=
  match dst with
  | some (.int k) => match v, src with
    | .z (.int _) a, some (.int _) => some (True, .l (.z (.int k) (k.wrap a)))
    | _, _ => none
  | some .str => match v, src with
    | .z .str a, some .str => some (True, .l (.z .str a))
    | _, _ => match u8, l with
      | true, some l => some (True, .l (.z .str l))
      | _, _ => none
  | _ => none

/-- An operation over leaves that writes nothing and makes nothing. -/
def pureOp (T : Tab) (s : AState) : Op → Option (Prop × AV)
  | .move x | .assign x => match opnd s x with
    | some (.g _ _) => none
    | some (.gt _ _) => none
    | some v => some (True, v)
    | none => none
  | .binOp op ty x y _ => match leaf (opnd s x), leaf (opnd s y) with
    | some a, some b => match binLV (get? T.types ty) op a b with
      | some (C, v) => some (C, .l v)
      | none => none
    | _, _ => none
  | .unOp op _ x => match leaf (opnd s x) with
    | some a => match unLV op a with
      | some v => some (True, .l v)
      | none => none
    | none => none
  | .convert src dst x => match leaf (opnd s x) with
    | some v => convLV (u8Slice T src) (convOwn s.own v) (get? T.types src) (get? T.types dst) v
    | none => none
  | .load t x => match leaf (opnd s x), get? T.types t with
    | some (.z (.ptr u) a), some v => if u = v then some (True, .l (.z u a)) else none
    | some (.ownP id off), some v => match get? s.own id with
      | some (.box _ cs) => if off + v.w ≤ cs.length then
          match readCells v ((cs.drop off).take v.w) with
          | some r => some (True, r)
          | none => none
        else none
      | _ => none
    | some (.ownE id w i), some v => match get? s.own id with
      | some (.arr u _ xs) => if u = v ∧ w = u.w then some (i < xs.length, .l (.z u (nth u xs i))) else none
      | some (.win u _ _ xs _) => if u = v ∧ w = u.w then some (i < xs.length, .l (.z u (nth u xs i))) else none
      | some (.que u _ xs) => if u = v ∧ w = u.w then some (i < xs.length, .l (.z u (nth u xs i))) else none
      | _ => none
    | some (.ownA id i), some (.slice v) => match get? s.own id with
      | some (.mat u _ _ rows idx) => if u = v then some ((rowIx idx i).isSome = true, .l (.ownR id ((rowIx idx i).getD 0))) else none
      | _ => none
    | some (.ownB id j w k), some v => match get? s.own id with
      | some (.mat u _ _ rows _) => if u = v ∧ w = u.w then some (live rows j = true ∧ k < (rowOf rows j).length, .l (.z u (nth u (rowOf rows j) k))) else none
      | _ => none
    | some (.z (.opt u) a), some v => if u = v then some (a.isSome = true, .l (.z u (a.getD u.dflt))) else none
    | _, _ => none
  | .nilCheck x => match leaf (opnd s x) with
    | some (.z (.ptr t) a) => some (True, .l (.z (.ptr t) a))
    | some (.z (.opt t) a) => some (a.isSome = true, .l (.z (.ptr t) (a.getD t.dflt)))
    | some (.ownP id off) => some (True, .l (.ownP id off))
    | _ => none
  | .fieldAddr st x k => match leaf (opnd s x), get? T.types st with
    | some (.z (.ptr (.st t)) a), some (.st u) => if t = u ∧ k < u.fields.length then some (True, .l (.z (.ptr (t.fieldTy k)) (t.fieldOf k a))) else none
    | some (.z (.opt (.st t)) a), some (.st u) => if t = u ∧ k < u.fields.length then some (a.isSome = true, .l (.z (.ptr (t.fieldTy k)) (t.fieldOf k (a.getD t.dflt)))) else none
    | some (.ownP id off), some (.st u) => if k < u.fields.length then some (True, .l (.ownP id (off + u.fieldOff k))) else none
    | _, _ => none
  | .field st x k => match opnd s x, get? T.types st with
    | some (.l (.z (.st t) a)), some (.st u) => if t = u ∧ k < u.fields.length then some (True, .l (.z (t.fieldTy k) (t.fieldOf k a))) else none
    | some (.agg cs), some (.st u) => if k < u.fields.length ∧ u.fieldOff k + (u.fieldTy k).w ≤ cs.length then
        match readCells (u.fieldTy k) ((cs.drop (u.fieldOff k)).take (u.fieldTy k).w) with
        | some r => some (True, r)
        | none => none
      else none
    | _, _ => none
  | .indexAddr ty x i => match leaf (opnd s x), leaf (opnd s i), get? T.types ty with
    | some (.z (.slice t) xs), some (.z (.int _) n), some (.slice u) => if t = u then some (idxC n xs.length, .l (.z (.ptr t) (nth t xs n))) else none
    | some (.ownS id), some (.z (.int _) n), some (.slice u) => match get? s.own id with
      | some (.arr t _ xs) => if t = u then some (idxC n xs.length, .l (.ownE id t.w n.toNat)) else none
      | some (.win t _ _ xs _) => if t = u then some (idxC n xs.length, .l (.ownE id t.w n.toNat)) else none
      | some (.que t _ xs) => if t = u then some (idxC n xs.length, .l (.ownE id t.w n.toNat)) else none
      | _ => none
    | some (.ownW id w i), some (.z (.int _) n), some (.slice u) => match get? s.own id with
      | some (.arr t _ xs) => if t = u ∧ w = t.w then some (idxC n (xs.length - i), .l (.ownE id t.w (i + n.toNat))) else none
      | _ => none
    | some (.ownM id), some (.z (.int _) n), some (.slice (.slice u)) => match get? s.own id with
      | some (.mat t _ _ _ idx) => if t = u then some (idxC n idx.length, .l (.ownA id n.toNat)) else none
      | _ => none
    | some (.ownR id j), some (.z (.int _) n), some (.slice u) => match get? s.own id with
      | some (.mat t _ _ rows _) => if t = u then some (live rows j = true ∧ idxC n (rowOf rows j).length, .l (.ownB id j t.w n.toNat)) else none
      | _ => none
    | some (.ownP id off), some (.z (.int _) n), some (.arr m u) => some (idxC n m, .l (.ownP id (off + n.toNat * u.w)))
    | some (.z (.ptr (.arr m t)) xs), some (.z (.int _) n), some (.arr m' u) => if m = m' ∧ t = u then some (idxC n m, .l (.z (.ptr t) (nth t xs n))) else none
    | _, _, _ => none
  | .index ty x i => match leaf (opnd s x), leaf (opnd s i), get? T.types ty with
    | some (.z .str xs), some (.z (.int _) n), some .str => some (idxC n xs.length, .l (.z (.int .u8) ((xs.getD n.toNat 0).toNat : Int)))
    | some (.z (.arr m t) xs), some (.z (.int _) n), some (.arr m' u) => if m = m' ∧ t = u then some (idxC n m, .l (.z t (nth t xs n))) else none
    | _, _, _ => none
  | .slice ty x lo hi mx => match leaf (opnd s x), optLeaf s lo, optLeaf s hi, optLeaf s mx, get? T.types ty with
    | some a, some l, some h, some m, some u => match sliceLV u a l h m with
      | some (C, v) => some (C, .l v)
      | none => none
    | _, _, _, _, _ => none
  | .extract x n => match opnd s x with
    | some (.tup l) => match l[n]? with
      | some v => some (True, .l v)
      | none => none
    | _ => none
  | .makeFunc (.func f) first caps => match first.toList, capsOf s caps.toList with
    | [], some cs => some (True, .l (.fn f cs))
    | _, _ => none
  | .call c => match c.callee, c.args.toList with
    | .builtin b, l => pureCall T s b l c.argTypes.toList
    | _, _ => none
  | _ => none

end Go.Cm
end

section
/- The abstract machine: the operations that make memory, write it or call; straight code; the verification condition of structured code. -/
namespace Go.Cm

def LV.kill (id : Nat) (v : LV) : LV := if v.isOf id then .junk else v
def AV.map (f : LV → LV) : AV → AV
  | .l x => .l (f x)
  | .agg cs => .agg (cs.map f)
  | .tup xs => .tup (xs.map f)
  | .g φ x => .g φ (f x)
  | .gt φ xs => .gt φ (xs.map f)
def OObj.map (f : LV → LV) : OObj → OObj
  | .box T cs => .box T (cs.map f)
  | .arr t T xs => .arr t T xs
  | .win t T pre xs post => .win t T pre xs post
  | .mat t T E rows idx => .mat t T E rows idx
  | .que t T xs => .que t T xs
def mapEnv (f : LV → LV) : List (Nat × AV) → List (Nat × AV)
  | [] => []
  | (k, v) :: r => (k, v.map f) :: mapEnv f r
def mapOwn (f : LV → LV) : List (Nat × OObj) → List (Nat × OObj)
  | [] => []
  | (k, v) :: r => (k, v.map f) :: mapOwn f r

/-- The names of an owned block are forgotten, and the block with them. -/
def AState.kill (s : AState) (id : Nat) : AState := { env := mapEnv (LV.kill id) s.env, own := mapOwn (LV.kill id) (del s.own id) }

/-- The names of an array are forgotten, the array stays. -/
def AState.hush (s : AState) (id : Nat) : AState := { env := mapEnv (LV.kill id) s.env, own := mapOwn (LV.kill id) s.own }

def LV.thaw (id : Nat) (t : Ty) (xs : List t.D) : LV → LV
  | .ownS i => if i = id then .z (.slice t) xs else .ownS i
  | v => v.kill id

/-- From here on nobody writes the array. -/
def AState.freeze (s : AState) (id : Nat) : AState :=
  match get? s.own id with
  | some (.arr t _ xs) => { env := mapEnv (LV.thaw id t xs) s.env, own := mapOwn (LV.thaw id t xs) (del s.own id) }
  | _ => s

/-- The arrays that a value names. -/
def LV.ids : LV → List Nat
  | .ownS i => [i]
  | _ => []
def AV.ids : AV → List Nat
  | .l x => x.ids
  | .agg cs => cs.flatMap LV.ids
  | _ => []

def AState.freezeAll (s : AState) : List Nat → AState
  | [] => s
  | i :: r => (s.freeze i).freezeAll r

/-- The state in which what an operand names is frozen. -/
def frozenAt (s : AState) (x : Operand) : AState :=
  match opnd s x with
  | some v => s.freezeAll v.ids
  | none => s

/-- An operand as pure data of a type; what it names is frozen. -/
def pureArg (s : AState) (t : Ty) (x : Operand) : Option (t.D × AState) :=
  match opnd (frozenAt s x) x with
  | some v => match v.get t with
    | some a => some (a, frozenAt s x)
    | none => none
  | none => none

/-- An argument of a call. -/
def callArg (T : Tab) (s : AState) (t : TypeId) (x : Operand) : Option (LV × AState) :=
  match opnd (frozenAt s x) x with
  | some (.l (.ownP id 0)) => some (.ownP id 0, frozenAt s x)
  | some (.l (.fn f caps)) => some (.fn f caps, frozenAt s x)
  | some (.l (.z u a)) => some (.z u a, frozenAt s x)
  | some (.l (.val v)) => some (.val v, frozenAt s x)
  | some (.agg cs) => match get? T.types t with
    | some u => match AV.get u (.agg cs) with
      | some a => some (.z u a, frozenAt s x)
      | none => none
    | none => none
  | _ => none

/-- An argument, which may be lent. -/
def lendArg (T : Tab) (io : Bool) (s : AState) (t : TypeId) (x : Operand) : Option (LV × AState) :=
  match io, opnd s x with
  | true, some (.l (.ownS id)) => some (.ownS id, s)
  | true, some (.l (.ownW id w i)) => some (.ownW id w i, s)
  | _, _ => callArg T s t x

def callArgs (T : Tab) (io : List Nat) : Nat → AState → List TypeId → List Operand → Option (List LV × AState)
  | _, s, _, [] => some ([], s)
  | k, s, t :: ts, x :: xs => match lendArg T (io.contains k) s t x with
    | some (v, s) => match callArgs T io (k + 1) s ts xs with
      | some (vs, s) => some (v :: vs, s)
      | none => none
    | none => none
  | _, _, [], _ :: _ => none

/-- The parts of a literal, each as pure data; where one is missing, its zero. -/
def litArgs (t : Ty) : (n i : Nat) → List (Nat × Operand) → AState → Option (List t.D × AState)
  | 0, _, [], s => some ([], s)
  | 0, _, _ :: _, _ => none
  | n + 1, i, [], s => match t.zero with
    | some a => match litArgs t n (i + 1) [] s with
      | some (r, s) => some (a :: r, s)
      | none => none
    | none => none
  | n + 1, i, (j, x) :: ps, s =>
    if j = i then
      match pureArg s t x with
      | some (a, s) => match litArgs t n (i + 1) ps s with
        | some (r, s) => some (a :: r, s)
        | none => none
      | none => none
    else match t.zero with
      | some a => match litArgs t n (i + 1) ((j, x) :: ps) s with
        | some (r, s) => some (a :: r, s)
        | none => none
      | none => none

/-- The cells of a struct that is built. -/
def buildCells (s : AState) : List Ty → Nat → List (Nat × Operand) → Option (List LV)
  | [], _, [] => some []
  | [], _, _ :: _ => none
  | t :: ts, i, [] => match buildCells s ts (i + 1) [] with
    | some r => some (t.zeroCells.map constLV ++ r)
    | none => none
  | t :: ts, i, (j, x) :: ps =>
    if j = i then
      match opnd s x with
      | some v => match v.cells with
        | some cs => if cs.length = t.w then
            match buildCells s ts (i + 1) ps with
            | some r => some (cs ++ r)
            | none => none
          else none
        | none => none
      | none => none
    else match buildCells s ts (i + 1) ((j, x) :: ps) with
      | some r => some (t.zeroCells.map constLV ++ r)
      | none => none

/-- A result of a call, under a number of its own where it is an array. -/
def RV.give (id : Nat) : RV → LV × List (Nat × OObj)
  | .z t x => (.z t x, [])
  | .own t T xs => (.ownS id, [(id, .arr t T xs)])
  | .fn f caps => (.fn f caps, [])
  | .val v => (.val v, [])

def giveAll : Nat → List RV → List LV × List (Nat × OObj)
  | _, [] => ([], [])
  | i, r :: rs => ((r.give i).1 :: (giveAll (i + 1) rs).1, (r.give i).2 ++ (giveAll (i + 1) rs).2)


/-- What is lent: the thing's number; from which element on, where only an array's tail is lent. -/
abbrev Lent := Nat × Option (Nat × Nat)

def lentAt : List Lent → Nat → Lent → Option Nat
  | [], _, _ => none
  | i :: r, k, x => if i = x then some k else lentAt r (k + 1) x

def CV.lends : CV → List Lent
  | .p id => [(id, none)]
  | .z _ _ => []
def LV.lends : LV → List Lent
  | .ownS id => [(id, none)]
  | .ownP id 0 => [(id, none)]
  | .ownW id w i => [(id, some (w, i))]
  | .ownM id => [(id, none)]
  | .ownR id _ => [(id, none)]
  | .fn _ caps => caps.flatMap CV.lends
  | _ => []
def OObj.lends : OObj → List Lent
  | .box _ cs => cs.flatMap LV.lends
  | _ => []

/-- Each thing once. -/
def once : List Lent → List Lent → List Lent
  | l, [] => l
  | l, x :: r => if l.contains x then once l r else once (l ++ [x]) r

def ownLends (own : List (Nat × OObj)) : List Lent → List Lent
  | [] => []
  | (id, none) :: r => (match get? own id with
    | some o => o.lends
    | none => []) ++ ownLends own r
  | _ :: r => ownLends own r

/-- Caller's names as the called function's. -/
def CV.ren (l : List Lent) : CV → Option CV
  | .z t x => some (.z t x)
  | .p id => match lentAt l ioB (id, none) with
    | some k => some (.p k)
    | none => none
def capsRen (l : List Lent) : List CV → Option (List CV)
  | [] => some []
  | c :: r => match c.ren l, capsRen l r with
    | some c, some r => some (c :: r)
    | _, _ => none
def LV.ren (l : List Lent) : LV → LV
  | .z t x => .z t x
  | .val v => .val v
  | .ownP id off => match lentAt l ioB (id, none) with
    | some k => .ownP k off
    | none => .junk
  | .ownS id => match lentAt l ioB (id, none) with
    | some k => .ownS k
    | none => .junk
  | .ownW id w i => match lentAt l ioB (id, some (w, i)) with
    | some k => .ownS k
    | none => .junk
  | .ownM id => match lentAt l ioB (id, none) with
    | some k => .ownM k
    | none => .junk
  | .ownR id j => match lentAt l ioB (id, none) with
    | some k => .ownR k j
    | none => .junk
  | .fn f caps => match capsRen l caps with
    | some cs => .fn f cs
    | none => .junk
  | _ => .junk

/-- The called function's names as the caller's. -/
def backAt (l : List Lent) (k : Nat) : Option Nat :=
  if k < ioB then none else match l[k - ioB]? with
    | some (id, none) => some id
    | _ => none
def CV.back (l : List Lent) : CV → Option CV
  | .z t x => some (.z t x)
  | .p k => match backAt l k with
    | some id => some (.p id)
    | none => none
def capsBack (l : List Lent) : List CV → Option (List CV)
  | [] => some []
  | c :: r => match c.back l, capsBack l r with
    | some c, some r => some (c :: r)
    | _, _ => none
def LV.back (l : List Lent) : LV → LV
  | .z t x => .z t x
  | .val v => .val v
  | .ownP k off => match backAt l k with
    | some id => .ownP id off
    | none => .junk
  | .ownS k => match backAt l k with
    | some id => .ownS id
    | none => .junk
  | .ownM k => match backAt l k with
    | some id => .ownM id
    | none => .junk
  | .ownR k j => match backAt l k with
    | some id => .ownR id j
    | none => .junk
  | .fn f caps => match capsBack l caps with
    | some cs => .fn f cs
    | none => .junk
  | _ => .junk

/-- A thing as it is lent. -/
def lendObj (own : List (Nat × OObj)) (l : List Lent) : Lent → Option OObj
  | (id, none) => match get? own id with
    | some o => some (o.map (LV.ren l))
    | none => none
  | (id, some (w, i)) => match get? own id with
    | some (.arr t T xs) => if i < xs.length ∧ w = t.w then some (.win t T (xs.take i) (xs.drop i) []) else none
    | _ => none
def lendAll (own : List (Nat × OObj)) (l : List Lent) : List Lent → Option (List OObj)
  | [] => some []
  | x :: r => match lendObj own l x, lendAll own l r with
    | some o, some os => some (o :: os)
    | _, _ => none

/-- A thing as it comes back. -/
def backObj (l : List Lent) : Lent → OObj → Option (Prop × OObj)
  | (_, none), o => some (True, o.map (LV.back l))
  | (_, some (w, i)), .win t T pre xs post => some (t.w = w ∧ pre.length = i ∧ post = [], .arr t T (pre ++ xs))
  | _, _ => none
def backAll (l : List Lent) : List Lent → List OObj → List (Nat × OObj) → Option (Prop × List (Nat × OObj))
  | [], [], own => some (True, own)
  | x :: r, o :: os, own => match backObj l x o with
    | some (C, o) => match backAll l r os (upd own x.1 o) with
      | some (C', own) => some (C ∧ C', own)
      | none => none
    | none => none
  | _, _, _ => none

def distinct : List Nat → Bool
  | [] => true
  | a :: r => !r.contains a && distinct r

def killAll (s : AState) : List Nat → AState
  | [] => s
  | i :: r => killAll (s.kill i) r

/-- The numbers of the arrays among the results. -/
def ownIds : Nat → List RV → List Nat
  | _, [] => []
  | i, .own .. :: rs => i :: ownIds (i + 1) rs
  | i, _ :: rs => ownIds (i + 1) rs

/-- Behind a call: the results in the slot. -/
def endCall (s : AState) (d : Nat) (rs : List RV) : AState :=
  let s := killAll s (ownIds (1000 + 8 * d) rs)
  let gs := giveAll (1000 + 8 * d) rs
  { env := (d, match gs.1 with
      | [x] => AV.l x
      | l => AV.tup l) :: del s.env d,
    own := gs.2 ++ s.own }

/-- append -/
def appendOp (T : Tab) (s : AState) (d : Option Nat) (args : List Operand) (types : List TypeId) : Option (Prop × AState) :=
  match d, args, types with
  | some d, [x, y], [t, u] => match leaf (opnd s x), get? T.types t, get? T.elems t with
    | some (.ownS id), some (.slice v), some E => if t = u ∧ 0 < v.w then
        match pureArg s (.slice v) y with
        | some (ys, s) => match get? s.own id with
          | some (.arr t' e xs) => if h : t' = v then
              if e = E ∧ T.mayMove id = true then
                let s := s.hush id
                some (Roomy v.w (xs.length + ys.length), { env := (d, .l (.ownS id)) :: del s.env d, own := upd s.own id (.arr v E ((h ▸ xs : List v.D) ++ ys)) })
              else none
            else none
          | some (.que t' e xs) => if h : t' = v then
              if e = E ∧ id < ioB then
                let s := s.hush id
                some (Roomy v.w (xs.length + ys.length), { env := (d, .l (.ownS id)) :: del s.env d, own := upd s.own id (.que v E ((h ▸ xs : List v.D) ++ ys)) })
              else none
            else none
          | _ => none
        | none => none
      else none
    | some (.ownR id j), some (.slice v), some E => if t = u ∧ 0 < v.w then
        match pureArg s (.slice v) y with
        | some (ys, s) => match get? s.own id with
          | some (.mat t' T' e rows idx) => if h : t' = v then
              if e = E ∧ id < ioB then
                some (live rows j = true ∧ Roomy v.w ((rowOf rows j).length + ys.length), { env := (d, .l (.ownR id rows.length)) :: del s.env d, own := upd s.own id (.mat v T' E ((h ▸ rows : List (Option (List v.D))).set j none ++ [some (rowOf (h ▸ rows : List (Option (List v.D))) j ++ ys)]) idx) })
              else none
            else none
          | _ => none
        | none => none
      else none
    | some (.val n), some (.slice v), some E => if isNilS n ∧ t = u ∧ 0 < v.w then
        match pureArg s (.slice v) y with
        | some (ys, s) =>
          let s := s.kill d
          some (Roomy v.w ys.length, { env := (d, .l (.ownS d)) :: del s.env d, own := (d, .arr v E ys) :: s.own })
        | none => none
      else none
    | _, _, _ => none
  | _, _, _ => none

/-- A result whose array nobody writes from then on. -/
def RV.cold : RV → RV
  | .own t _ xs => .z (.slice t) xs
  | .z t x => .z t x
  | .val v => .val v
  | .fn f caps => .fn f caps

def coldCon (c : Con) : Con := fun l os => match c l os with
  | some (C, rs, os) => some (C, rs.map RV.cold, os)
  | none => none

/-- The contract of a call with its place; where the place is marked, what it hands back is data. -/
def Tab.conAt (T : Tab) (d : Option Nat) (f : FuncId) : Option Con :=
  match get? T.cons f with
  | some c => match d with
    | some d => match T.hint.contains d with
      | true => some (coldCon c)
      | false => some c
    | none => some c
  | none => none

/-- The called function, and what it has captured. -/
def calleeOf (s : AState) (f : Operand) : Option (FuncId × List LV) :=
  match opnd s f with
  | some (.l (.val (.func (.func g) first caps))) => if first.size = 0 ∧ caps.size = 0 then some (g, []) else none
  | some (.l (.fn g caps)) => some (g, caps.map CV.lv)
  | _ => none

/-- All that is lent for a call. -/
def lentOf (s : AState) (vs : List LV) : List Lent :=
  once (once [] (vs.flatMap LV.lends)) (ownLends s.own (once [] (vs.flatMap LV.lends)))

/-- The caller's numbers of the arrays that the called function may exchange. -/
def exIds (l : List Lent) : List Nat → List Nat
  | [] => []
  | k :: r => match l[k]? with
    | some (id, _) => id :: exIds l r
    | none => exIds l r
/-- May they be exchanged? -/
def exOK (T : Tab) (l : List Lent) (fr : List Nat) : Bool := fr.all fun k => match l[k]? with
  | some (id, none) => k != 0 && T.mayMove id
  | _ => false
def LV.forget (ds : List Nat) (x : LV) : LV := if ds.any (fun i => x.isOf i) then .junk else x
/-- The names of what is exchanged are forgotten. -/
def AState.forget (s : AState) : List Nat → AState
  | [] => s
  | d :: ds => { env := mapEnv (LV.forget (d :: ds)) s.env, own := mapOwn (LV.forget (d :: ds)) s.own }

/-- The call of a function under its contract. -/
def callOp (T : Tab) (s : AState) (d : Option Nat) (f : Operand) (args : List Operand) (types : List TypeId) : Option (Prop × AState) :=
  match calleeOf s f with
  | some (f, caps) => match T.conAt d f with
    | some con => match callArgs T ((get? T.io f).getD []) 0 s types args with
      | some (vs, s) =>
        let l := lentOf s (vs ++ caps)
        let fr := (get? T.frees f).getD []
        if distinct (l.map Prod.fst) then if exOK T l fr = true then
          match lendAll s.own l l with
          | some os => match con ((vs ++ caps).map (LV.ren l)) os with
            | some (C, rs, os) =>
              let s := s.forget (exIds l fr)
              match backAll l l os s.own with
              | some (C', own) => match d with
                | some d => if 1000 + 8 * d + rs.length ≤ ioB then some (C ∧ C', endCall { s with own := own } d rs) else none
                | none => match rs with
                  | [] => some (C ∧ C', { s with own := own })
                  | _ => none
              | none => none
            | none => none
          | none => none
        else none
        else none
      | none => none
    | none => none
  | _ => none

/-- Values that name nothing that the call owns. -/
def LV.plain : LV → Bool
  | .z _ _ | .val _ => true
  | .fn _ caps => caps.all fun c => match c with
    | .z _ _ => true
    | .p _ => false
  | _ => false

def plainArg (T : Tab) (s : AState) (t : TypeId) (x : Operand) : Option LV :=
  match opnd s x with
  | some (.l v) => if v.plain = true then some v else none
  | some (.agg cs) => match get? T.types t with
    | some u => match AV.get u (.agg cs) with
      | some a => some (.z u a)
      | none => none
    | none => none
  | _ => none

def plainArgs (T : Tab) (s : AState) : List TypeId → List Operand → Option (List LV)
  | _, [] => some []
  | t :: ts, x :: xs => match plainArg T s t x, plainArgs T s ts xs with
    | some v, some vs => some (v :: vs)
    | _, _ => none
  | [], _ :: _ => none

/-- A call that is handed data alone. -/
def plainCall (T : Tab) (d : Nat) (s : AState) (f : Operand) (args : List Operand) (types : List TypeId) : Option (Prop × List RV) :=
  match calleeOf s f with
  | some (g, caps) => if caps.all LV.plain = true ∧ (get? T.frees g).isNone = true then
      match T.conAt (some d) g, plainArgs T s types args with
      | some con, some vs => match con (vs ++ caps) [] with
        | some (C, rs, []) => some (C, rs)
        | _ => none
      | _, _ => none
    else none
  | none => none

/-- The length and the room of a new slice. -/
@[reducible] def mkC (l c : Int) (w : Nat) : Prop := 0 ≤ l ∧ l ≤ c ∧ Roomy w c.toNat

/-- An operation that makes memory, writes it, or calls. -/
def effOp (T : Tab) (s : AState) (d : Option Nat) : Op → Option (Prop × AState)
  | .alloc e => match d, get? T.types e with
    | some d, some t =>
      let s := s.kill d
      some (True, { env := (d, .l (.ownP d 0)) :: del s.env d, own := (d, .box e (t.zeroCells.map constLV)) :: s.own })
    | _, _ => none
  | .box e x => match d, get? T.types e with
    | some d, some t => if T.hint.contains d then
        match opnd s x with
        | some v => match v.cells with
          | some cs => if cs.length = t.w ∧ cs.all (fun c => !c.isOf d) then
              let s := s.kill d
              some (True, { env := (d, .l (.ownP d 0)) :: del s.env d, own := (d, .box e cs) :: s.own })
            else none
          | none => none
        | none => none
      else match pureArg s t x with
        | some (a, s) => if T.hint.contains (3000000 + d) then some (True, s.put d (.l (.z (.opt t) (some a)))) else some (True, s.put d (.l (.z (.ptr t) a)))
        | none => none
    | _, _ => none
  | .build e parts => match d, get? T.types e with
    | some d, some (.st t) => match buildCells s t.fields 0 parts.toList with
      | some cs => match readCells (.st t) cs with
        | some v => some (True, s.put d v)
        | none => none
      | none => none
    | some d, some (.arr n t) => match litArgs t n 0 parts.toList s with
      | some (xs, s) => some (True, s.put d (.l (.z (.arr n t) xs)))
      | none => none
    | _, _ => none
  | .buildSlice e n parts => match d, get? T.types e, get? T.elems e with
    | some d, some (.slice t), some E => match litArgs t n 0 parts.toList s with
      | some (xs, s) => if n * t.w ≤ 16777216 ∧ 0 < t.w then
          if T.hint.contains d then
            let s := s.kill d
            some (True, { env := (d, .l (.ownS d)) :: del s.env d, own := (d, .arr t E xs) :: s.own })
          else some (True, s.put d (.l (.z (.slice t) xs)))
        else none
      | none => none
    | _, _, _ => none
  | .makeSlice e l c => match d, get? T.types e, get? T.elems e, leaf (opnd s l), leaf (opnd s c) with
    | some d, some (.slice t), some E, some (.z (.int _) l), some (.z (.int _) c) => match t.zero with
      | some x => if 0 < t.w then
          if T.hint.contains (1000000 + d) then match t, get? T.elems E with
            | .slice u, some E' =>
              let s := s.kill d
              some (mkC l c 1, { env := (d, .l (.ownM d)) :: del s.env d, own := (d, .mat u E E' (List.replicate l.toNat (some [])) ((List.range l.toNat).map some)) :: s.own })
            | _, _ => none
          else
          let s := s.kill d
          some (mkC l c t.w, { env := (d, .l (.ownS d)) :: del s.env d, own := (d, .arr t E (List.replicate l.toNat x)) :: s.own })
        else none
      | none => none
    | _, _, _, _, _ => none
  | .slice ty x lo hi mx => match d, leaf (opnd s x), get? T.types ty with
    | some d, some (.ownS id), some (.slice u) => if T.hint.contains (2000000 + d) then
        match get? s.own id, lo, hi, mx with
        | some (.que t E xs), some lo, none, none => match leaf (opnd s lo) with
          | some (.z (.int _) l) => if t = u ∧ id < ioB then
              let s := s.hush id
              some (cutC 0 l xs.length, { env := (d, .l (.ownS id)) :: del s.env d, own := upd s.own id (.que t E (xs.drop l.toNat)) })
            else none
          | _ => none
        | _, _, _, _ => none
      else if T.hint.contains d then
        match get? s.own id, lo, hi, mx with
        | some (.arr t _ xs), some lo, none, none => match leaf (opnd s lo) with
          | some (.z (.int _) l) => if t = u then some (idxC l xs.length, s.put d (.l (.ownW id t.w l.toNat))) else none
          | _ => none
        | some (.arr t E xs), none, some hi, none => match leaf (opnd s hi) with
          | some (.z (.int _) h) => if t = u ∧ T.mayMove id = true then
              let s := s.hush id
              some (cutC 0 h xs.length, { env := (d, .l (.ownS id)) :: del s.env d, own := upd s.own id (.arr t E (xs.take h.toNat)) })
            else none
          | _ => none
        | _, _, _, _ => none
      else match pureOp T (frozenAt s x) (.slice ty x lo hi mx) with
        | some (C, v) => some (C, (frozenAt s x).put d v)
        | none => none
    | _, _, _ => none
  | .store t x y => if d.isSome then none else match leaf (opnd s x), get? T.types t with
    | some (.ownP id off), some u => match get? s.own id, opnd s y with
      | some (.box e cs), some v => match v.cells with
        | some new => if new.length = u.w ∧ off + u.w ≤ cs.length then
            some (True, { s with own := upd s.own id (.box e (cs.take off ++ (new ++ cs.drop (off + u.w)))) })
          else none
        | none => none
      | _, _ => none
    | some (.ownE id w i), some u => match pureArg s u y with
      | some (a, s) => match get? s.own id with
        | some (.arr t e xs) => if h : u = t then
            if w = t.w then some (i < xs.length, { s with own := upd s.own id (.arr t e (xs.set i (h ▸ a))) }) else none
          else none
        | some (.win t e pre xs post) => if h : u = t then
            if w = t.w then some (i < xs.length, { s with own := upd s.own id (.win t e pre (xs.set i (h ▸ a)) post) }) else none
          else none
        | _ => none
      | none => none
    | some (.ownA id i), some (.slice u) => match get? s.own id, opnd s y with
      | some (.mat t T' e rows idx), some (.l (.ownR id' j)) => if u = t ∧ id' = id then
          some (i < idx.length ∧ j < rows.length, { s with own := upd s.own id (.mat t T' e rows (idx.set i (some j))) })
        else none
      | _, _ => none
    | some (.ownB id j w k), some u => match pureArg s u y with
      | some (a, s) => match get? s.own id with
        | some (.mat t T' e rows idx) => if h : u = t then
            if w = t.w then some (live rows j = true ∧ k < (rowOf rows j).length, { s with own := upd s.own id (.mat t T' e (rows.set j (some ((rowOf rows j).set k (h ▸ a)))) idx) }) else none
          else none
        | _ => none
      | none => none
    | _, _ => none
  | .convert src dst x => match d, leaf (opnd s x), get? T.types src, get? T.types dst with
    | some d, some (.z .str a), some .str, some (.slice (.int .u8)) => if u8Slice T dst = true then some (a.length ≤ 70368744177664, s.put d (.l (.z (.slice (.int .u8)) (bytesOf a)))) else none
    | _, _, _, _ => none
  | .call c => match c.callee with
    | .builtin .append => appendOp T s d c.args.toList c.argTypes.toList
    | .value f => callOp T s d f c.args.toList c.argTypes.toList
    | _ => none
  | _ => none

/-- Under which Bool a guarded operation runs. -/
def guardOf (ops : List Oper) (s : AState) (j : Nat) (want : Bool) : Option Bool :=
  match ops[j]? with
  | some o => match o.dst with
    | some t => match get? s.env t with
      | some (.l (.z .bool b)) => some (match want with | true => b | false => !b)
      | some (.g φ (.z .bool b)) => some (φ && (match want with | true => b | false => !b))
      | _ => none
    | none => none
  | none => none

/-- The slots that an operation reads. -/
def tmpsOf : List Operand → List Nat
  | [] => []
  | .tmp t :: r => t :: tmpsOf r
  | _ :: r => tmpsOf r

def AV.plain : AV → AV
  | .g _ x => .l x
  | .gt _ xs => .tup xs
  | v => v

/-- The frame as a guarded operation sees it. -/
def subEnv (env : List (Nat × AV)) : List Nat → List (Nat × AV)
  | [] => []
  | t :: r => match get? env t with
    | some v => (t, v.plain) :: subEnv env r
    | none => subEnv env r

/-- What a guarded operation asks of the guards of its operands. -/
def asks (env : List (Nat × AV)) : List Nat → Prop
  | [] => True
  | t :: r => match get? env t with
    | some (.g ψ _) => ψ = true ∧ asks env r
    | some (.gt ψ _) => ψ = true ∧ asks env r
    | _ => asks env r

def anyLeaf : Option AV → Option LV
  | some (.l x) => some x
  | some (.g _ x) => some x
  | _ => none

def CV.data : CV → Bool
  | .z _ _ => true
  | .p _ => false

/-- Results that name nothing. -/
def rvs? : List RV → Option (List LV)
  | [] => some []
  | .z t x :: r => match rvs? r with
    | some l => some (.z t x :: l)
    | none => none
  | .fn f caps :: r => match caps.all CV.data, rvs? r with
    | true, some l => some (.fn f caps :: l)
    | _, _ => none
  | .val v :: r => match rvs? r with
    | some l => some (.val v :: l)
    | none => none
  | .own .. :: _ => none

/-- What a guarded call yields. -/
def gRes (φ : Bool) (rs : List RV) : Option AV :=
  match rvs? rs with
  | some [x] => some (.g φ x)
  | some l => some (.gt φ l)
  | none => none

/-- 'pick', the end of '&&' and '||'. -/
def pickLV (s : AState) (c x y : Operand) : Option (Prop × LV) :=
  match anyLeaf (opnd s c) with
  | some (.z .bool b) =>
    match x, y with
    | .const (.bool true), y => match y, opnd s y with
      | _, some (.l (.z .bool v)) => some (True, .z .bool (b || v))
      | _, some (.g ψ (.z .bool v)) => some (b = false → ψ = true, .z .bool (b || v))
      | _, _ => none
    | x, .const (.bool false) => match opnd s x with
      | some (.l (.z .bool v)) => some (True, .z .bool (b && v))
      | some (.g ψ (.z .bool v)) => some (b = true → ψ = true, .z .bool (b && v))
      | _ => none
    | _, _ => none
  | _ => none

/-- The parts of an array that is built, when they name nothing. -/
def litPure (s : AState) (t : Ty) : (n i : Nat) → List (Nat × Operand) → Option (List t.D)
  | 0, _, [] => some []
  | 0, _, _ :: _ => none
  | n + 1, i, [] => match t.zero with
    | some a => match litPure s t n (i + 1) [] with
      | some r => some (a :: r)
      | none => none
    | none => none
  | n + 1, i, (j, x) :: ps =>
    if j = i then
      match opnd s x with
      | some v => if v.ids = [] then match v.get t with
        | some a => match litPure s t n (i + 1) ps with
          | some r => some (a :: r)
          | none => none
        | none => none
        else none
      | none => none
    else match t.zero with
      | some a => match litPure s t n (i + 1) ((j, x) :: ps) with
        | some r => some (a :: r)
        | none => none
      | none => none

/-- What a guarded operation makes that nobody writes. -/
def gEff (T : Tab) (s : AState) : Op → Option (Prop × LV)
  | .buildSlice e n parts => match get? T.types e, get? T.elems e with
    | some (.slice t), some _ => match litPure s t n 0 parts.toList with
      | some xs => if n * t.w ≤ 16777216 ∧ 0 < t.w then some (True, .z (.slice t) xs) else none
      | none => none
    | _, _ => none
  | .makeSlice e l c => match get? T.types e, get? T.elems e, leaf (opnd s l), leaf (opnd s c) with
    | some (.slice t), some _, some (.z (.int _) l), some (.z (.int _) c) => match t.zero with
      | some x => if 0 < t.w then some (mkC l c t.w, .z (.slice t) (List.replicate l.toNat x)) else none
      | none => none
    | _, _, _, _ => none
  | _ => none

def stepOp (T : Tab) (ops : List Oper) (o : Oper) (s : AState) : Option (Prop × AState) :=
  match o.guard with
  | none => match o.op with
    | .pick c x y => match o.dst, pickLV s c x y with
      | some d, some (C, v) => if T.ok d then some (asks s.env (tmpsOf [c]) ∧ C, s.put d (.l v)) else none
      | _, _ => none
    | op => match pureOp T s op with
      | some (C, v) => match o.dst with
        | some d => if T.ok d then some (C, s.put d v) else none
        | none => none
      | none => match o.dst with
        | some d => if T.ok d then effOp T s (some d) op else none
        | none => effOp T s none op
  | some (j, want) => match guardOf ops s j want, o.dst with
    | some φ, some d => if T.ok d then
        match o.op with
        | .pick c x y => match pickLV s c x y with
          | some (C, v) => some (φ = true → (asks s.env (tmpsOf [c]) ∧ C), s.put d (.g φ v))
          | none => none
        | op => match pureOp T { s with env := subEnv s.env (tmpsOf op.operands.toList) } op with
          | some (C, .l v) => some (φ = true → (asks s.env (tmpsOf op.operands.toList) ∧ C), s.put d (.g φ v))
          | _ => match op with
            | .call c => match c.callee with
              | .value f => match plainCall T d { s with env := subEnv s.env (tmpsOf op.operands.toList) } f c.args.toList c.argTypes.toList with
                | some (C, rs) => match gRes φ rs with
                  | some v => if 1000 + 8 * d + rs.length ≤ ioB then some (φ = true → (asks s.env (tmpsOf op.operands.toList) ∧ C), s.put d v) else none
                  | none => none
                | _ => none
              | _ => none
            | op => match gEff T { s with env := subEnv s.env (tmpsOf op.operands.toList) } op with
              | some (C, v) => some (φ = true → (asks s.env (tmpsOf op.operands.toList) ∧ C), s.put d (.g φ v))
              | none => none
      else none
    | _, _ => none

def exec (T : Tab) (ops : List Oper) : List Oper → AState → Option (Prop × AState)
  | [], s => some (True, s)
  | o :: r, s => match stepOp T ops o s with
    | some (C, s1) => match exec T ops r s1 with
      | some (C', s2) => some (C ∧ C', s2)
      | none => none
    | none => none

end Go.Cm
end

section
/- The verification condition of structured code. -/
namespace Go.Cm
open Go.RowKit

def All2 {α β : Type} (R : α → β → Prop) : List α → List β → Prop
  | [], [] => True
  | a :: as, b :: bs => R a b ∧ All2 R as bs
  | _, _ => False

/-- The context of a walk: the program, the table, the blocks that others may write, the blocks that are lent for the call, their headers and addresses, the world in which the call began. -/
structure Cx where
  P : Program
  T : Tab
  O : Nat → Prop
  I : Nat → Prop
  ρ0 : Nat → Value
  w0 : World
  r : Option Nat
  tm : Nat → Value

/-- Everything is allowed; 'r': the round of a range over a function, if the code runs in one. -/
def fw (r : Option Nat) : Fence := { Fence.wide with round := r }

/-- The marks that ranges over functions leave among the deferred calls. -/
structure Marks (B : Nat) (ds : List Deferred) (w : World) : Prop where
  each : ∀ d ∈ ds, ∃ D, d = { target := .collected D, args := #[] } ∧ B ≤ D ∧ w.heap[D]? = some (.deferred (some []))
  apart : ds.Pairwise (· ≠ ·)

/-- What the call may write. -/
def Cx.M (X : Cx) (b : Nat) : Prop := X.w0.heap.size ≤ b ∨ X.I b

/-- Of an earlier world, all is as it was but some blocks. -/
structure Bel (M : Nat → Prop) (w w' : World) : Prop where
  os : w'.os = w.os
  tape : w'.tape = w.tape
  output : w'.output = w.output
  size : w.heap.size ≤ w'.heap.size
  block : ∀ k, k < w.heap.size → ¬ M k → w'.heap[k]? = w.heap[k]?

def RepCV (H : Nat → Prop) (w : World) (ρ : Nat → Value) : CV → Value → Prop
  | .z t x, v => (match v with | .agg _ => true | _ => false) = t.isAgg ∧ t.rep H w v.cells.toList x
  | .p id, v => ∃ b, ρ id = .pointer (some ⟨b, 0, none⟩) ∧ v = .pointer (some ⟨b, 0, none⟩)

def RepL (H : Nat → Prop) (w : World) (ρ : Nat → Value) : LV → Value → Prop
  | .z t x, v => (match v with | .agg _ => true | _ => false) = t.isAgg ∧ t.rep H w v.cells.toList x
  | .ownS id, v => v = ρ id ∧ ∃ a n c, v = .slice a n c
  | .ownP id off, v => ∃ b, ρ id = .pointer (some ⟨b, 0, none⟩) ∧ v = .pointer (some ⟨b, off, none⟩)
  | .ownE id w i, v => ∃ b o n c, ρ id = .slice (some ⟨b, o, none⟩) n c ∧ v = .pointer (some ⟨b, o + i * w, none⟩)
  | .ownW id w i, v => ∃ b n c, ρ id = .slice (some ⟨b, 0, none⟩) n c ∧ i < n ∧ v = .slice (some ⟨b, i * w, none⟩) (n - i) (c - i)
  | .ownM id, v => ∃ a n c vs, ρ id = .tuple ⟨.slice a n c :: vs⟩ ∧ v = .slice a n c
  | .ownA id i, v => ∃ b n c vs, ρ id = .tuple ⟨.slice (some ⟨b, 0, none⟩) n c :: vs⟩ ∧ v = .pointer (some ⟨b, i, none⟩)
  | .ownR id j, v => ∃ h vs a n c, ρ id = .tuple ⟨h :: vs⟩ ∧ vs[j]? = some v ∧ v = .slice a n c
  | .ownB id j w k, v => ∃ h vs b n c, ρ id = .tuple ⟨h :: vs⟩ ∧ vs[j]? = some (.slice (some ⟨b, 0, none⟩) n c) ∧ v = .pointer (some ⟨b, k * w, none⟩)
  | .fn f caps, v => ∃ vs : List Value, v = .func (.func f) #[] vs.toArray ∧ All2 (RepCV H w ρ) caps vs
  | .val u, v => v = u
  | .junk, _ => True

/-- A value of one cell. -/
def RepC (H : Nat → Prop) (w : World) (ρ : Nat → Value) (x : LV) (v : Value) : Prop :=
  RepL H w ρ x v ∧ v.oneCell' = true

def RepV (H : Nat → Prop) (w : World) (ρ : Nat → Value) : AV → Value → Prop
  | .l x, v => RepL H w ρ x v
  | .agg cs, v => ∃ vs : List Value, v = .agg vs.toArray ∧ All2 (RepC H w ρ) cs vs
  | .tup xs, v => ∃ vs : List Value, v = .tuple vs.toArray ∧ All2 (RepL H w ρ) xs vs
  | .g φ x, v => (φ = true → RepL H w ρ x v) ∧ (φ = false → v = undef)
  | .gt φ xs, v => (φ = true → ∃ vs : List Value, v = .tuple vs.toArray ∧ All2 (RepL H w ρ) xs vs) ∧ (φ = false → v = undef)

/-- The block of a header or an address. -/
def blk : Value → Option Nat
  | .slice (some a) _ _ => some a.block
  | .pointer (some a) => some a.block
  | _ => none

/-- The blocks of a header, of an address, or of a table of rows. -/
def Blk : Value → Nat → Prop
  | .slice (some a) _ _, b => a.block = b
  | .pointer (some a), b => a.block = b
  | .tuple vs, b => ∃ u ∈ vs.toList, blk u = some b
  | _, _ => False

/-- A row that the call may write. -/
def rowAt (M : Nat → Prop) (w : World) (e : TypeId) (size : Nat) (v : Value) (n : Nat) (xs : List Value) : Prop :=
  xs.length = n * size ∧
  ((v = .slice none 0 0 ∧ n = 0) ∨
   ∃ g cap cur, v = .slice (some ⟨g, 0, none⟩) n cap ∧ M g ∧ w.heap[g]? = some (.cells cur e (0, 0)) ∧ n ≤ cap ∧ cap ≤ maxLen ∧ cur.size = cap * size ∧ cur.toList.take (n * size) = xs)

/-- A row that the call may write, somewhere in its block. -/
def queAt (M : Nat → Prop) (w : World) (e : TypeId) (size : Nat) (v : Value) (n : Nat) (xs : List Value) : Prop :=
  xs.length = n * size ∧
  ((v = .slice none 0 0 ∧ n = 0) ∨
   ∃ g off cap cur, v = .slice (some ⟨g, off * size, none⟩) n cap ∧ M g ∧ w.heap[g]? = some (.cells cur e (0, 0)) ∧ n ≤ cap ∧ off + cap ≤ maxLen ∧ (off + cap) * size ≤ cur.size ∧ (cur.toList.drop (off * size)).take (n * size) = xs)

/-- A table of rows: its header, the rows' headers (those of rows that are gone too), the header's cells. -/
structure MatOK {α : Type} (R : List Value → α → Prop) (size : Nat) (M : Nat → Prop) (w : World) (T E : TypeId) (rows : List (Option (List α))) (idx : List (Option Nat)) (h : Value) (vs cells : List Value) : Prop where
  len : vs.length = rows.length
  hdr : rowAt M w T 1 h idx.length cells
  one : ∀ c ∈ cells, c.oneCell' = true
  at_ : ∀ (i j : Nat), idx[i]? = some (some j) → j < rows.length ∧ cells[i]? = vs[j]?
  shape : ∀ v ∈ vs, (∃ a n c, v = .slice a n c) ∧ ∀ b, blk v = some b → blk h ≠ some b ∧ M b ∧ ∃ o : Obj, w.heap[b]? = some o ∧ o.isCells = true
  row : ∀ (j : Nat) (xs : List α) (v : Value), rows[j]? = some (some xs) → vs[j]? = some v → ∃ cs, repL R cs xs ∧ rowAt M w E size v xs.length cs
  apart : ∀ (i j : Nat) (xs ys : List α) (u v : Value), i ≠ j → rows[i]? = some (some xs) → rows[j]? = some (some ys) → vs[i]? = some u → vs[j]? = some v → ∀ b, blk u = some b → blk v ≠ some b

def OwnOK (H : Nat → Prop) (w : World) (ρ : Nat → Value) (M : Nat → Prop) : Nat × OObj → Prop
  | (id, .box T cs) => ∃ (b : Nat) (vs : List Value), ρ id = .pointer (some ⟨b, 0, none⟩) ∧ M b ∧ w.heap[b]? = some (.cells vs.toArray T (0, 0)) ∧ All2 (RepC H w ρ) cs vs
  | (id, .arr t T xs) => ∃ cells, repL (fun c x => t.rep H w c x) cells xs ∧ rowAt M w T t.w (ρ id) xs.length cells
  | (id, .win t T pre xs post) => ∃ g cap cells cur, repL (fun c x => t.rep H w c x) cells (pre ++ (xs ++ post)) ∧ ρ id = .slice (some ⟨g, pre.length * t.w, none⟩) xs.length cap ∧ M g ∧
      w.heap[g]? = some (.cells cur T (0, 0)) ∧ xs.length ≤ cap ∧ cap ≤ maxLen ∧ pre.length + cap ≤ maxLen ∧ cur.size = (pre.length + cap) * t.w ∧ post.length + xs.length ≤ cap ∧ cur.toList.take ((pre ++ (xs ++ post)).length * t.w) = cells
  | (id, .que t T xs) => ∃ cells, repL (fun c x => t.rep H w c x) cells xs ∧ queAt M w T t.w (ρ id) xs.length cells
  | (id, .mat t T E rows idx) => ∃ (h : Value) (vs cells : List Value), ρ id = .tuple ⟨h :: vs⟩ ∧ MatOK (fun c x => t.rep H w c x) t.w M w T E rows idx h vs cells

/-- The hot blocks: the callers', and those that the call owns. -/
def hot (O : Nat → Prop) (ρ : Nat → Value) (own : List (Nat × OObj)) (b : Nat) : Prop := O b ∨ ∃ p ∈ own, Blk (ρ p.1) b

structure Fits (X : Cx) (s : AState) (a : Act) (w : World) (ρ : Nat → Value) : Prop where
  env : ∀ e ∈ s.env, RepV (hot X.O ρ s.own) w ρ e.2 (a.tmps.getD e.1 undef)
  own : ∀ p ∈ s.own, OwnOK (hot X.O ρ s.own) w ρ X.M p
  io : ∀ p ∈ s.own, ioB ≤ p.1 → X.T.free.contains p.1 = false → ρ p.1 = X.ρ0 p.1
  apart : s.own.Pairwise fun p q => p.1 ≠ q.1 ∧ ∀ b, Blk (ρ p.1) b → ¬ Blk (ρ q.1) b

/-- What lies below is there. -/
def Base.On (B : Base) (w : World) : Prop := B.n ≤ w.heap.size ∧ ∀ b, b < B.n → w.heap[b]? = B.heap b

structure Sm (X : Cx) : Prop where
  n : X.T.N ≤ ioB
  on : X.T.base.On X.w0
  io : ∀ b, X.I b → X.T.base.n ≤ b

structure St (X : Cx) (s : AState) (a : Act) (w : World) : Prop where
  marks : Marks X.w0.heap.size a.defers w
  kept : ∀ t ∈ X.T.keep, a.tmps.getD t undef = X.tm t
  size : a.tmps.size = X.T.N
  below : Bel X.M X.w0 w
  others : ∀ b, X.O b → ¬ X.M b
  small : Sm X
  fits : ∃ ρ, Fits X s a w ρ

def post (X : Cx) (K : Exit → AState → Prop) (e : Exit) (a : Act) (w : World) : Prop := ∃ s, K e s ∧ St X s a w

/-- Code meets its abstract exits from an abstract state. -/
def J (X : Cx) (c : Code) (s : AState) (K : Exit → AState → Prop) : Prop := ∀ a w, St X s a w → c.wpIn (fw X.r) 2 X.P (post X K) a w

section
variable {M : Nat → Prop} {a b c w : World}
theorem Bel.refl (M : Nat → Prop) (w : World) : Bel M w w := ⟨rfl, rfl, rfl, Nat.le_refl _, fun _ _ _ => rfl⟩
theorem Bel.trans {M' : Nat → Prop} (h : Bel M a b) (k : Bel M' b c) (hM : ∀ j, j < a.heap.size → M' j → M j) : Bel M a c :=
  ⟨k.os.trans h.os, k.tape.trans h.tape, k.output.trans h.output, Nat.le_trans h.size k.size, fun i hi hn => (k.block i (Nat.lt_of_lt_of_le hi h.size) (fun hm => hn (hM i hi hm))).trans (h.block i hi hn)⟩
theorem Bel.drew (h : Bel M a w) : Bel M a w.drew := ⟨h.os, h.tape, h.output, h.size, h.block⟩
theorem Bel.alloc (h : Bel M a w) (o : Obj) : Bel M a (w.alloc o) :=
  ⟨h.os, h.tape, h.output, by show a.heap.size ≤ (w.heap.push o).size; rw [Array.size_push]; exact Nat.le_succ_of_le h.size, fun k hk hn => (Below.heap_alloc w o k (Nat.lt_of_lt_of_le hk h.size)).trans (h.block k hk hn)⟩
theorem Bel.setCell {p : Addr} (hp : M p.block) (h : Bel M a w) (v : Value) : Bel M a (w.setCell p v) :=
  ⟨h.os, h.tape, h.output, by simpa [World.setCell] using h.size, fun k hk hn => (Below.heap_setCell w p v k (fun e => hn (e ▸ hp))).trans (h.block k hk hn)⟩
theorem Cx.M_new {X : Cx} {w : World} (h : Bel X.M X.w0 w) : X.M w.heap.size := .inl h.size
theorem rowAt_nil (M : Nat → Prop) (w : World) (e : TypeId) (size : Nat) : rowAt M w e size (.slice none 0 0) 0 [] := ⟨by simp, .inl ⟨rfl, rfl⟩⟩
end

theorem St.on {X : Cx} {s : AState} {a : Act} {w : World} (h : St X s a w) : X.T.base.On w := by
  have hs := h.below.size
  refine ⟨Nat.le_trans h.small.on.1 hs, fun b hb => ?_⟩
  have h1 := h.small.on.1
  rw [← h.small.on.2 b hb]
  refine h.below.block b (by omega) ?_
  rintro (hm | hm)
  · omega
  · have := h.small.io b hm; omega

theorem Marks.nil (B : Nat) (w : World) : Marks B [] w := ⟨fun d hd => by simp at hd, .nil⟩
theorem Marks.keep {B : Nat} {ds : List Deferred} {w w' : World} (h : Marks B ds w) (hk : KeepsOthers w w') : Marks B ds w' :=
  ⟨fun d hd => by obtain ⟨D, h1, h2, h3⟩ := h.each d hd; exact ⟨D, h1, h2, hk.same D _ h3 rfl⟩, h.apart⟩
theorem KeepsOthers.of_bel {M : Nat → Prop} {w w' : World} (h : Bel M w w') (hM : ∀ b, b < w.heap.size → M b → ∃ o : Obj, w.heap[b]? = some o ∧ o.isCells = true) : KeepsOthers w w' := by
  refine ⟨h.size, fun k o hk ho => ?_⟩
  have hlt := (Array.getElem?_eq_some_iff.1 hk).1
  refine (h.block k hlt fun hm => ?_).trans hk
  obtain ⟨o', h1, h2⟩ := hM k hlt hm
  rw [hk] at h1; cases h1; rw [h2] at ho; cases ho

def vc (X : Cx) : Code → AState → (Exit → AState → Prop) → Prop
  | .skip, s, K => K .normal s
  | .label _, s, K => K .normal s
  | .region _ ops false, s, K => match exec X.T ops.toList ops.toList s with
    | some (C, s') => C ∧ K .normal s'
    | none => False
  | .region id ops true, s, K => J X (.region id ops true) s K
  | .seq x y, s, K => vc X x s fun e s' => match e with
    | .normal => vc X y s' K
    | e => K e s'
  | .cond c x y, s, K => match leaf (opnd s c) with
    | some (.z .bool t) => (t = true → vc X x s K) ∧ (t = false → vc X y s K)
    | _ => False
  | .block id c, s, K => vc X c s fun e s' => match e with
    | .exit i => if i = id then K .normal s' else K (.exit i) s'
    | e => K e s'
  | .loop c, s, K => J X (.loop c) s K
  | .exit id, s, K => K (.exit id) s
  | .ret, s, K => K .ret s
  | _, _, _ => False

end Go.Cm
end

section
/- The machine is right: what lies where; operands; the operations that make and write nothing. -/
namespace Go.Cm
open Go.RowKit

/-! ### Lists side by side -/
theorem All2.length {α β : Type} {R : α → β → Prop} : ∀ {as : List α} {bs : List β}, All2 R as bs → as.length = bs.length
  | [], [], _ => rfl
  | _ :: _, _ :: _, h => by simp [All2.length h.2]
  | [], _ :: _, h => h.elim
  | _ :: _, [], h => h.elim

theorem All2.imp {α β : Type} {R R' : α → β → Prop} : ∀ {as : List α} {bs : List β}, (∀ a b, a ∈ as → R a b → R' a b) → All2 R as bs → All2 R' as bs
  | [], [], _, _ => trivial
  | a :: as, b :: bs, h, h' => ⟨h a b (by simp) h'.1, h'.2.imp (fun a b ha => h a b (by simp [ha]))⟩
  | [], _ :: _, _, h => h.elim
  | _ :: _, [], _, h => h.elim

theorem All2.append {α β : Type} {R : α → β → Prop} : ∀ {as as' : List α} {bs bs' : List β}, All2 R as bs → All2 R as' bs' → All2 R (as ++ as') (bs ++ bs')
  | [], _, [], _, _, h => h
  | _ :: _, _, _ :: _, _, h, h' => ⟨h.1, h.2.append h'⟩
  | [], _, _ :: _, _, h, _ => h.elim
  | _ :: _, _, [], _, h, _ => h.elim

theorem All2.take {α β : Type} {R : α → β → Prop} : ∀ (n : Nat) {as : List α} {bs : List β}, All2 R as bs → All2 R (as.take n) (bs.take n)
  | 0, _, _, _ => by simp [All2]
  | n + 1, [], [], _ => by simp [All2]
  | n + 1, _ :: _, _ :: _, h => ⟨h.1, h.2.take n⟩
  | _ + 1, [], _ :: _, h => h.elim
  | _ + 1, _ :: _, [], h => h.elim

theorem All2.drop {α β : Type} {R : α → β → Prop} : ∀ (n : Nat) {as : List α} {bs : List β}, All2 R as bs → All2 R (as.drop n) (bs.drop n)
  | 0, _, _, h => by simpa using h
  | n + 1, [], [], _ => by simp [All2]
  | n + 1, _ :: _, _ :: _, h => h.2.drop n
  | _ + 1, [], _ :: _, h => h.elim
  | _ + 1, _ :: _, [], h => h.elim

theorem All2.get {α β : Type} {R : α → β → Prop} : ∀ {as : List α} {bs : List β}, All2 R as bs → ∀ {i : Nat} {a : α}, as[i]? = some a → ∃ b, bs[i]? = some b ∧ R a b
  | a :: _, b :: _, h, 0, _, e => by simp at e; subst e; exact ⟨b, rfl, h.1⟩
  | _ :: _, _ :: _, h, i + 1, _, e => by simpa using h.2.get (by simpa using e)
  | [], _, _, _, _, e => by simp at e
  | _ :: _, [], h, _, _, _ => h.elim

/-! ### Lists with keys -/
theorem get?_mem {α : Type} : ∀ {l : List (Nat × α)} {n : Nat} {x : α}, get? l n = some x → (n, x) ∈ l
  | (k, y) :: r, n, x, h => by
    simp only [get?] at h
    split at h
    · rename_i e; simp at h; simp [e, h]
    · exact List.mem_cons_of_mem _ (get?_mem h)

theorem mem_del {α : Type} : ∀ {l : List (Nat × α)} {n : Nat} {p : Nat × α}, p ∈ del l n ↔ p ∈ l ∧ p.1 ≠ n
  | [], _, _ => by simp [del]
  | (k, y) :: r, n, p => by
    simp only [del]
    split
    · rename_i e
      rw [mem_del]
      constructor
      · rintro ⟨h, h'⟩; exact ⟨List.mem_cons_of_mem _ h, h'⟩
      · rintro ⟨h, h'⟩
        rcases List.mem_cons.1 h with rfl | h
        · exact absurd e h'
        · exact ⟨h, h'⟩
    · rename_i e
      rw [List.mem_cons, mem_del, List.mem_cons]
      constructor
      · rintro (rfl | ⟨h, h'⟩)
        · exact ⟨.inl rfl, e⟩
        · exact ⟨.inr h, h'⟩
      · rintro ⟨rfl | h, h'⟩
        · exact .inl rfl
        · exact .inr ⟨h, h'⟩

/-! ### The zero of a type -/
theorem Ty.rep_zero (H : Nat → Prop) (w : World) : ∀ (t : Ty) {x : t.D}, t.zero = some x → t.rep H w t.zeroCells x
  | .int _, _, h => by simp [Ty.zero] at h; subst h; rfl
  | .bool, _, h => by simp [Ty.zero] at h; subst h; rfl
  | .str, _, h => by simp [Ty.zero] at h; subst h; rfl
  | .unit, _, _ => rfl
  | .pair a b, x, h => by
    simp only [Ty.zero] at h
    split at h
    · rename_i y z hy hz
      simp at h; subst h
      exact ⟨_, _, rfl, a.rep_zero H w hy, b.rep_zero H w hz⟩
    · simp at h
  | .st t, _, h => t.rep_zero H w (x := _) h
  | .arr n t, x, h => by
    simp only [Ty.zero] at h
    split at h
    · rename_i y hy
      simp at h; subst h
      exact ⟨by simp, repL_replicate (t.rep_zero H w hy) n⟩
    · simp at h
  | .slice _, _, h => by simp [Ty.zero] at h; subst h; exact .inl ⟨rfl, rfl⟩
  | .ptr _, _, h => by simp [Ty.zero] at h
  | .opt _, _, h => by simp [Ty.zero] at h; subst h; rfl
  | .func, _, h => by simp [Ty.zero] at h

def mkV (agg : Bool) (cs : List Value) : Value :=
  match agg with
  | true => .agg cs.toArray
  | false => cs.headD undef

/-! ### The table of types -/
def Shape (P : Program) (d : TypeDesc) : Ty → Prop
  | .int k => d = .int k
  | .bool => d = .bool
  | .str => d = .string
  | .unit => False
  | .pair _ _ => False
  | .st t => ∃ fs, d = .struct fs ∧ fs.size = t.fields.length ∧ ∀ k, k < t.fields.length → ∃ f j e, fs[k]? = some f ∧ f.offset = t.fieldOff k ∧ P.info? f.type = some j ∧ j.size = (t.fieldTy k).w ∧ j.size ≠ 0 ∧ P.underlying f.type = some e ∧ e.isRow = (t.fieldTy k).isAgg ∧ ((t.fieldTy k).isAgg = false → (t.fieldTy k).w = 1)
  | .arr n t => ∃ e j d', d = .array n e ∧ P.info? e = some j ∧ j.size = t.w ∧ P.underlying e = some d' ∧ d'.isRow = t.isAgg ∧ (t.isAgg = false → t.w = 1)
  | .slice t => ∃ e j, d = .slice e ∧ P.info? e = some j ∧ j.size = t.w ∧ j.bytes ≤ 24 * t.w ∧ j.zero = some (mkV t.isAgg t.zeroCells) ∧ (t.isAgg = false → t.w = 1)
  | .ptr _ | .opt _ => ∃ e, d = .pointer e
  | .func => ∃ a b c, d = .func a b c

def TyOK (P : Program) (T : TypeId) (t : Ty) : Prop :=
  ∃ i d, P.info? T = some i ∧ P.underlying T = some d ∧ i.size = t.w ∧ d.isRow = t.isAgg ∧ i.zero = some (mkV t.isAgg t.zeroCells) ∧ Shape P d t

structure TabOK (P : Program) (T : Tab) : Prop where
  types : ∀ t u, get? T.types t = some u → TyOK P t u
  elems : ∀ t e, get? T.elems t = some e → P.underlying t = some (.slice e)
  small : T.N ≤ ioB

/-! ### Values and cells -/
def isAggV : Value → Bool
  | .agg _ => true
  | _ => false

theorem RepL_z {H : Nat → Prop} {w : World} {ρ : Nat → Value} {t : Ty} {x : t.D} {v : Value} : RepL H w ρ (.z t x) v ↔ isAggV v = t.isAgg ∧ t.rep H w v.cells.toList x := Iff.rfl

theorem RepL_of_cells {H : Nat → Prop} {w : World} {ρ : Nat → Value} {t : Ty} {x : t.D} {cs : List Value} (h : t.rep H w cs x) (hw : t.isAgg = false → t.w = 1) (h1 : t.isAgg = false → ∀ c ∈ cs, c.oneCell' = true) : RepL H w ρ (.z t x) (mkV t.isAgg cs) := by
  rw [RepL_z]
  cases ha : t.isAgg with
  | true => exact ⟨rfl, by simpa [mkV, Value.cells] using h⟩
  | false =>
    have hl := t.rep_length h
    rw [hw ha] at hl
    match cs, hl with
    | [c], _ =>
      have hc := h1 ha c (by simp)
      cases c <;> first
        | (simp [Value.oneCell'] at hc; done)
        | exact ⟨rfl, h⟩

theorem Ty.w_of_leaf {t : Ty} (h : t.isAgg = false) (hu : t ≠ .unit) (hp : ∀ a b, t ≠ .pair a b) : t.w = 1 := by
  cases t <;> first
    | rfl
    | exact absurd rfl hu
    | exact absurd rfl (hp _ _)
    | simp [Ty.isAgg] at h

/-- The cells of pure data hold single values. -/
theorem Ty.rep_oneCell {H : Nat → Prop} {w : World} : ∀ (t : Ty) {cs : List Value} {x : t.D}, t.rep H w cs x → ∀ c ∈ cs, c.oneCell' = true
  | .int _, _, _, h => by rw [show _ = _ from h]; simp [Value.oneCell']
  | .bool, _, _, h => by rw [show _ = _ from h]; simp [Value.oneCell']
  | .str, _, _, h => by rw [show _ = _ from h]; simp [Value.oneCell']
  | .func, _, _, h => by rw [show _ = _ from h]; simp [Value.oneCell']
  | .unit, _, _, h => by rw [show _ = _ from h]; simp
  | .pair a b, _, _, ⟨c, d, e, h1, h2⟩ => by
    intro v hv; rw [e] at hv
    rcases List.mem_append.1 hv with hv | hv
    · exact a.rep_oneCell h1 v hv
    · exact b.rep_oneCell h2 v hv
  | .st t, _, _, h => t.rep_oneCell (cs := _) h
  | .arr n t, cs, x, ⟨_, h⟩ => by
    have key : ∀ {xs : List t.D} {cs : List Value}, repL (fun c y => t.rep H w c y) cs xs → ∀ c ∈ cs, c.oneCell' = true := by
      intro xs
      induction xs with
      | nil => intro cs h; simp [repL] at h; simp [h]
      | cons y ys ih =>
        rintro cs ⟨c, d, e, h1, h2⟩ v hv
        rw [e] at hv
        rcases List.mem_append.1 hv with hv | hv
        · exact t.rep_oneCell h1 v hv
        · exact ih h2 v hv
    exact key h
  | .slice t, _, _, h => by
    rcases h with ⟨e, _⟩ | ⟨b, o, p, cap, cells, e, _⟩ <;> rw [e] <;> simp [Value.oneCell']
  | .ptr t, _, _, ⟨b, o, cells, e, h1, h2⟩ => by rw [e]; simp [Value.oneCell']
  | .opt t, _, x, h => by
    cases x with
    | none => rw [show _ = _ from h]; simp [Value.oneCell']
    | some y => obtain ⟨b, o, cells, e, h1, h2⟩ := h; rw [e]; simp [Value.oneCell']

theorem repL_oneCell {H : Nat → Prop} {w : World} {t : Ty} : ∀ {xs : List t.D} {cs : List Value}, repL (fun c y => t.rep H w c y) cs xs → ∀ c ∈ cs, c.oneCell' = true
  | [], _, h => by simp [repL] at h; simp [h]
  | y :: ys, _, ⟨c, d, e, h1, h2⟩ => by
    intro v hv; rw [e] at hv
    rcases List.mem_append.1 hv with hv | hv
    · exact t.rep_oneCell h1 v hv
    · exact repL_oneCell h2 v hv

/-- Data of a type of the table, read out of their cells. -/
theorem RepL_mkV {H : Nat → Prop} {w : World} {ρ : Nat → Value} {P : Program} {T : TypeId} {t : Ty} (ht : TyOK P T t) {x : t.D} {cs : List Value} (h : t.rep H w cs x) : RepL H w ρ (.z t x) (mkV t.isAgg cs) := by
  obtain ⟨i, d, _, _, _, _, _, hs⟩ := ht
  refine RepL_of_cells h (fun ha => Ty.w_of_leaf ha ?_ ?_) (fun _ => t.rep_oneCell h)
  · rintro rfl; exact hs
  · rintro a b rfl; exact hs

/-! ### Operands -/
theorem const_ok {H : Nat → Prop} {w : World} {ρ : Nat → Value} (v : Value) : RepL H w ρ (constLV v) v := by
  cases v <;> first
    | exact ⟨rfl, rfl⟩
    | (refine ⟨rfl, ?_⟩; simp [Value.cells, Ty.rep]; done)
    | rfl

theorem opnd_ok {X : Cx} {s : AState} {a : Act} {w : World} {ρ : Nat → Value} (h : Fits X s a w ρ) {x : Operand} {v : AV} (he : opnd s x = some v) : RepV (hot X.O ρ s.own) w ρ v (a.eval x) := by
  cases x with
  | tmp t => exact h.env (t, v) (get?_mem he)
  | const c => simp [opnd] at he; subst he; exact const_ok c
  | global g => simp [opnd] at he
  | func f => simp [opnd] at he; subst he; rfl

theorem leaf_ok {X : Cx} {s : AState} {a : Act} {w : World} {ρ : Nat → Value} (h : Fits X s a w ρ) {x : Operand} {v : LV} (he : leaf (opnd s x) = some v) : RepL (hot X.O ρ s.own) w ρ v (a.eval x) := by
  cases ho : opnd s x with
  | none => simp [ho, leaf] at he
  | some u =>
    have := opnd_ok h ho
    cases u <;> simp [ho, leaf] at he
    subst he; exact this

end Go.Cm
end

section
/- The machine is right: the operations that make and write nothing. -/
namespace Go.Cm
open Go.RowKit

theorem run_isAgg {P : Program} {T : TypeId} {t : Ty} (ht : TyOK P T t) (w : World) : (isAgg T).run P w = .ok t.isAgg w := by
  obtain ⟨i, d, hi, hu, _, hr, _⟩ := ht
  unfold isAgg
  rw [Sem.run_bind, run_underlying hu w]
  rw [← hr]
  cases d <;> simp [TypeDesc.isRow]

theorem run_loadAt {P : Program} {T : TypeId} {t : Ty} (ht : TyOK P T t) {w : World} {b o : Nat} {cells : List Value} (hl : cells.length = t.w) (hc : ∀ j, j < cells.length → w.cell? ⟨b, o + j, none⟩ = cells[j]?) :
    (Instr.loadAt T (.pointer (some ⟨b, o, none⟩))).run P w = .ok (mkV t.isAgg cells) w := by
  have hagg := run_isAgg ht w
  have ht' := ht
  obtain ⟨i, d, hi, hu, hsz, hr, _, hs⟩ := ht
  cases ha : t.isAgg with
  | true =>
    refine run_loadAt_mid w b o T cells d (fun j v hv => ?_) hu (by rw [hr, ha]) (by simp [hi, hsz, hl])
    rw [hc j (List.getElem?_eq_some_iff.1 hv).1, hv]
  | false =>
    have hw : t.w = 1 := Ty.w_of_leaf ha (by rintro rfl; exact hs) (by rintro a b rfl; exact hs)
    rw [hw] at hl
    match cells, hl with
    | [c], _ =>
      have h0 := hc 0 (by simp)
      simp only [Nat.add_zero, List.getElem?_cons_zero] at h0
      rw [ha] at hagg
      simp [Instr.loadAt, Instr.sureAddr, loadVar, Sem.run_bind, hagg, h0, mkV]

/-- What 'nth' gives inside the list. -/
theorem nth_eq (t : Ty) (xs : List t.D) (i : Int) (h0 : 0 ≤ i) (h : i < xs.length) : ∃ hi : i.toNat < xs.length, nth t xs i = xs[i.toNat] := by
  have hi : i.toNat < xs.length := by omega
  exact ⟨hi, by simp [nth, List.getD, hi]⟩

theorem LiesAt.sub {H : Nat → Prop} {w : World} {b o : Nat} {cells : List Value} (h : LiesAt H w b o cells) (i n : Nat) : LiesAt H w b (o + i) ((cells.drop i).take n) := by
  refine ⟨fun hne => h.1 (by rintro rfl; simp at hne), fun j hj => ?_⟩
  have hj' : j < n ∧ i + j < cells.length := by
    simp only [List.length_take, List.length_drop] at hj; omega
  rw [Nat.add_assoc, h.2 (i + j) hj'.2, List.getElem?_take_of_lt hj'.1, List.getElem?_drop]

/-- One element of a slice. -/
theorem rep_elem {H : Nat → Prop} {w : World} {t : Ty} {xs : List t.D} {v : Value} {ρ : Nat → Value} (h : RepL H w ρ (.z (.slice t) xs) v) {i : Int} (h0 : 0 ≤ i) (hi : i < xs.length) :
    ∃ b o cap, v = .slice (some ⟨b, o, none⟩) xs.length cap ∧ RepL H w ρ (.z (.ptr t) (nth t xs i)) (.pointer (some ⟨b, o + i.toNat * t.w, none⟩)) := by
  rw [RepL_z] at h
  obtain ⟨ha, h⟩ := h
  have hv : v.cells.toList = [v] := by
    cases v <;> simp [isAggV, Ty.isAgg] at ha <;> rfl
  rw [hv] at h
  rcases h with ⟨_, he⟩ | ⟨b, o, p, cap, cells, he, hp, h1, h2, h3, h4⟩
  · subst he; simp at hi; omega
  · simp at he
    obtain rfl := hp (by intro e; subst e; simp at hi; omega)
    obtain ⟨hlt, hn⟩ := nth_eq t xs i h0 hi
    refine ⟨b, o, cap, he, ?_⟩
    rw [RepL_z]
    refine ⟨rfl, b, o + i.toNat * t.w, (cells.drop (i.toNat * t.w)).take t.w, rfl, ?_, h4.sub _ _⟩
    rw [hn]
    exact repL_get (fun c x h => t.rep_length h) h3 i.toNat hlt

theorem slice_val {H : Nat → Prop} {w : World} {t : Ty} {xs : List t.D} {v : Value} {ρ : Nat → Value} (h : RepL H w ρ (.z (.slice t) xs) v) : ∃ a cap, v = .slice a xs.length cap ∧ xs.length ≤ cap ∧ cap ≤ maxLen := by
  rw [RepL_z] at h
  obtain ⟨ha, h⟩ := h
  have hv : v.cells.toList = [v] := by
    cases v <;> simp [isAggV, Ty.isAgg] at ha <;> rfl
  rw [hv] at h
  rcases h with ⟨he, hx⟩ | ⟨b, o, p, cap, cells, he, hp, h1, h2, h3, h4⟩
  · simp at he; subst hx; exact ⟨none, 0, he, by simp, by simp⟩
  · simp at he; exact ⟨_, cap, he, h1, h2⟩

theorem int_val {H : Nat → Prop} {w : World} {k : IntKind} {x : Int} {v : Value} {ρ : Nat → Value} (h : RepL H w ρ (.z (.int k) x) v) : v = .int k x := by
  obtain ⟨ha, h⟩ := h
  cases v <;> simp [Ty.isAgg, Value.cells, Ty.rep] at ha h ⊢ <;> exact h
theorem bool_val {H : Nat → Prop} {w : World} {x : Bool} {v : Value} {ρ : Nat → Value} (h : RepL H w ρ (.z .bool x) v) : v = .bool x := by
  obtain ⟨ha, h⟩ := h
  cases v <;> simp [Ty.isAgg, Value.cells, Ty.rep] at ha h ⊢ <;> exact h
theorem str_val {H : Nat → Prop} {w : World} {x : List UInt8} {v : Value} {ρ : Nat → Value} (h : RepL H w ρ (.z .str x) v) : v = .string ⟨x.toArray⟩ := by
  obtain ⟨ha, h⟩ := h
  cases v <;> simp [Ty.isAgg, Value.cells, Ty.rep] at ha h ⊢ <;> exact h
theorem ptr_val {H : Nat → Prop} {w : World} {t : Ty} {x : t.D} {v : Value} {ρ : Nat → Value} (h : RepL H w ρ (.z (.ptr t) x) v) : ∃ b o cells, v = .pointer (some ⟨b, o, none⟩) ∧ t.rep H w cells x ∧ LiesAt H w b o cells := by
  obtain ⟨ha, h⟩ := h
  cases v <;> simp [Ty.isAgg, Value.cells, Ty.rep] at ha h
  obtain ⟨b, o, he, cells, h1, h2⟩ := h
  exact ⟨b, o, cells, by rw [he], h1, h2⟩
theorem arr_val {H : Nat → Prop} {w : World} {n : Nat} {t : Ty} {x : List t.D} {v : Value} {ρ : Nat → Value} (h : RepL H w ρ (.z (.arr n t) x) v) : ∃ cs : List Value, v = .agg cs.toArray ∧ x.length = n ∧ repL (fun c y => t.rep H w c y) cs x := by
  obtain ⟨ha, h⟩ := h
  cases v <;> simp [Ty.isAgg] at ha
  rename_i cs
  obtain ⟨h1, h2⟩ := h
  exact ⟨cs.toList, by simp, h1, by simpa [Value.cells] using h2⟩
theorem st_val {H : Nat → Prop} {w : World} {t : Ty} {x : t.D} {v : Value} {ρ : Nat → Value} (h : RepL H w ρ (.z (.st t) x) v) : ∃ cs : List Value, v = .agg cs.toArray ∧ t.rep H w cs x := by
  obtain ⟨ha, h⟩ := h
  cases v <;> simp [Ty.isAgg] at ha
  rename_i cs
  exact ⟨cs.toList, by simp, by simpa [Value.cells, Ty.rep] using h⟩

theorem rep_int {H : Nat → Prop} {w : World} {ρ : Nat → Value} {k : IntKind} {n : Int} : RepL H w ρ (.z (.int k) n) (.int k n) := ⟨rfl, rfl⟩
theorem rep_bool {H : Nat → Prop} {w : World} {ρ : Nat → Value} {b : Bool} : RepL H w ρ (.z .bool b) (.bool b) := ⟨rfl, rfl⟩
theorem rep_str {H : Nat → Prop} {w : World} {ρ : Nat → Value} {l : List UInt8} : RepL H w ρ (.z .str l) (.string ⟨l.toArray⟩) := ⟨rfl, rfl⟩

/-! ### Operators -/
theorem run_intBin {P : Program} {w : World} {op : BinOp} {k k' : IntKind} {a b : Int} {ty : TypeId} {C : Prop} {v : LV} (h : intBin op k a k' b = some (C, v)) (hC : C) (H : Nat → Prop) (ρ : Nat → Value) :
    ∃ val, (binOp op ty (.int k a) (.int k' b)).run P w = .ok val w ∧ RepL H w ρ v val := by
  cases op <;> simp only [intBin] at h <;> (first | (split at h; rotate_left; (· simp at h); (try subst_vars)) | skip) <;> simp only [Option.some.injEq, Prod.mk.injEq] at h <;> obtain ⟨rfl, rfl⟩ := h
  case shl =>
    exact ⟨_, by simp [binOp, Op.shift, show ¬ b < 0 by omega], rep_int⟩
  case shr =>
    exact ⟨_, by simp [binOp, Op.shift, show ¬ b < 0 by omega], rep_int⟩
  case add => exact ⟨_, by simp [binOp, Op.intArith], rep_int⟩
  case sub => exact ⟨_, by simp [binOp, Op.intArith], rep_int⟩
  case mul => exact ⟨_, by simp [binOp, Op.intArith], rep_int⟩
  case quo => exact ⟨_, by simp [binOp, Op.intDiv, hC], rep_int⟩
  case rem => exact ⟨_, by simp [binOp, Op.intDiv, hC], rep_int⟩
  case and => exact ⟨_, by simp [binOp, Op.intBits], rep_int⟩
  case or => exact ⟨_, by simp [binOp, Op.intBits], rep_int⟩
  case xor => exact ⟨_, by simp [binOp, Op.intBits], rep_int⟩
  case andNot => exact ⟨_, by simp [binOp, Op.intBits], rep_int⟩
  case eql => exact ⟨_, by simp [binOp, Op.intCmp], rep_bool⟩
  case neq => exact ⟨_, by simp [binOp, Op.intCmp], rep_bool⟩
  case lss => exact ⟨_, by simp [binOp, Op.intCmp], rep_bool⟩
  case leq => exact ⟨_, by simp [binOp, Op.intCmp], rep_bool⟩
  case gtr => exact ⟨_, by simp [binOp, Op.intCmp], rep_bool⟩
  case geq => exact ⟨_, by simp [binOp, Op.intCmp], rep_bool⟩

theorem run_strBin {P : Program} {w : World} {op : BinOp} {a b : List UInt8} {ty : TypeId} {C : Prop} {v : LV} (h : strBin op a b = some (C, v)) (hC : C) (H : Nat → Prop) (ρ : Nat → Value) :
    ∃ val, (binOp op ty (.string ⟨a.toArray⟩) (.string ⟨b.toArray⟩)).run P w = .ok val w ∧ RepL H w ρ v val := by
  have e1 : (⟨a.toArray⟩ : ByteArray).toList = a := by rw [ByteArray.toList_eq]
  have e2 : (⟨b.toArray⟩ : ByteArray).toList = b := by rw [ByteArray.toList_eq]
  cases op <;> simp only [strBin] at h <;> (first | (simp at h; done) | skip) <;> simp only [Option.some.injEq, Prod.mk.injEq] at h <;> obtain ⟨rfl, rfl⟩ := h
  case add =>
    have hle : ¬ ((((⟨a.toArray⟩ : ByteArray).size + (⟨b.toArray⟩ : ByteArray).size : Nat) : Int) > IntKind.i64.max) := by
      have : IntKind.i64.max = 9223372036854775807 := by decide
      have hm : maxLen = 9223372036854775807 := rfl
      have s1 : (⟨a.toArray⟩ : ByteArray).size = a.length := by simp [ByteArray.size]
      have s2 : (⟨b.toArray⟩ : ByteArray).size = b.length := by simp [ByteArray.size]
      rw [this, s1, s2]; omega
    refine ⟨_, by simp only [binOp, Op.stringOp, hle, if_false]; rfl, ?_⟩
    have : (⟨a.toArray⟩ : ByteArray) ++ ⟨b.toArray⟩ = ⟨(a ++ b).toArray⟩ := by
      ext1; simp
    rw [this]; exact rep_str
  case eql => exact ⟨_, by simp only [binOp, Op.stringOp, e1, e2]; rfl, rep_bool⟩
  case neq =>
    refine ⟨_, by simp only [binOp, Op.stringOp, e1, e2]; rfl, ?_⟩
    exact rep_bool

end Go.Cm
end

section
/- The machine is right: the operations that make and write nothing, all of them. -/
namespace Go.Cm
open Go.RowKit

theorem cells_one {v : Value} (h : isAggV v = false) : v.cells.toList = [v] := by
  cases v <;> simp [isAggV] at h <;> rfl

theorem isAggV_of_one {v : Value} (h : v.oneCell' = true) : isAggV v = false := by
  cases v <;> simp [Value.oneCell', isAggV] at h ⊢

/-- A cell as pure data. -/
theorem LV.get_ok {H : Nat → Prop} {w : World} {ρ : Nat → Value} {t : Ty} {c : LV} {x : t.D} {v : Value} (hg : c.get t = some x) (h : RepL H w ρ c v) : RepL H w ρ (.z t x) v := by
  cases c with
  | z u y =>
    simp only [LV.get] at hg
    split at hg
    · rename_i e; subst e; simp at hg; subst hg; exact h
    · simp at hg
  | val u =>
    have hv : v = u := h
    subst hv
    cases t <;> simp [LV.get] at hg
    case slice t =>
      obtain ⟨hn, hx⟩ := hg
      cases v <;> simp [isNilS] at hn
      rename_i a n c
      obtain ⟨⟨rfl, rfl⟩, rfl⟩ := hn
      refine ⟨rfl, .inl ⟨rfl, hx⟩⟩
    case opt t =>
      obtain ⟨hn, hx⟩ := hg
      cases v <;> simp [isNilP] at hn
      subst hn
      refine ⟨rfl, ?_⟩
      subst hx
      rfl
  | ownS => simp [LV.get] at hg
  | ownP => simp [LV.get] at hg
  | ownE => simp [LV.get] at hg
  | ownW => simp [LV.get] at hg
  | ownM => simp [LV.get] at hg
  | ownA => simp [LV.get] at hg
  | ownR => simp [LV.get] at hg
  | ownB => simp [LV.get] at hg
  | fn => simp [LV.get] at hg
  | junk => simp [LV.get] at hg

theorem Ty.join_ok {H : Nat → Prop} {w : World} {ρ : Nat → Value} : ∀ (t : Ty) {cs r : List LV} {x : t.D} {vs : List Value}, t.join cs = some (x, r) → All2 (RepC H w ρ) cs vs → ∃ v1 v2, vs = v1 ++ v2 ∧ t.rep H w v1 x ∧ All2 (RepC H w ρ) r v2 := by
  have one : ∀ (t : Ty), t.isAgg = false → ∀ {c : LV} {cs r : List LV} {x : t.D} {vs : List Value}, (c.get t).map (fun y => (y, cs)) = some (x, r) → All2 (RepC H w ρ) (c :: cs) vs → ∃ v1 v2, vs = v1 ++ v2 ∧ t.rep H w v1 x ∧ All2 (RepC H w ρ) r v2 := by
    intro t ha c cs r x vs hj h
    obtain ⟨y, hy, hj⟩ := Option.map_eq_some_iff.1 hj
    simp at hj
    obtain ⟨rfl, rfl⟩ := hj
    match vs, h with
    | v :: vs, h =>
      have := LV.get_ok hy h.1.1
      have hc := cells_one (isAggV_of_one h.1.2)
      refine ⟨[v], vs, rfl, ?_, h.2⟩
      have h2 := this.2
      rw [hc] at h2
      exact h2
  intro t
  induction t with
  | unit => intro cs r x vs hj h; simp [Ty.join] at hj; subst hj; exact ⟨[], vs, rfl, rfl, h⟩
  | pair a b iha ihb =>
    intro cs r x vs hj h
    simp only [Ty.join] at hj
    split at hj
    · rename_i y l hy
      split at hj
      · rename_i z l' hz
        simp at hj
        obtain ⟨rfl, rfl⟩ := hj
        obtain ⟨v1, v2, rfl, h1, h2⟩ := iha hy h
        obtain ⟨v3, v4, rfl, h3, h4⟩ := ihb hz h2
        exact ⟨v1 ++ v3, v4, by simp, ⟨v1, v3, rfl, h1, h3⟩, h4⟩
      · simp at hj
    · simp at hj
  | st t ih => intro cs r x vs hj h; exact ih (by simpa [Ty.join] using hj) h
  | arr n t => intro cs r x vs hj h; simp [Ty.join] at hj
  | func => intro cs r x vs hj h; simp [Ty.join] at hj
  | int k => intro cs r x vs hj h; cases cs with
    | nil => simp [Ty.join] at hj
    | cons c cs => exact one (.int k) rfl (by rw [← hj]; simp only [Ty.join]; cases LV.get (.int k) c <;> rfl) h
  | bool => intro cs r x vs hj h; cases cs with
    | nil => simp [Ty.join] at hj
    | cons c cs => exact one .bool rfl (by rw [← hj]; simp only [Ty.join]; cases LV.get .bool c <;> rfl) h
  | str => intro cs r x vs hj h; cases cs with
    | nil => simp [Ty.join] at hj
    | cons c cs => exact one .str rfl (by rw [← hj]; simp only [Ty.join]; cases LV.get .str c <;> rfl) h
  | slice t => intro cs r x vs hj h; cases cs with
    | nil => simp [Ty.join] at hj
    | cons c cs => exact one (.slice t) rfl (by rw [← hj]; simp only [Ty.join]; cases LV.get (.slice t) c <;> rfl) h
  | ptr t => intro cs r x vs hj h; cases cs with
    | nil => simp [Ty.join] at hj
    | cons c cs => exact one (.ptr t) rfl (by rw [← hj]; simp only [Ty.join]; cases LV.get (.ptr t) c <;> rfl) h
  | opt t => intro cs r x vs hj h; cases cs with
    | nil => simp [Ty.join] at hj
    | cons c cs => exact one (.opt t) rfl (by rw [← hj]; simp only [Ty.join]; cases LV.get (.opt t) c <;> rfl) h

theorem AV.get_ok {H : Nat → Prop} {w : World} {ρ : Nat → Value} {t : Ty} {c : AV} {x : t.D} {v : Value} (hg : c.get t = some x) (h : RepV H w ρ c v) : RepL H w ρ (.z t x) v := by
  cases c with
  | l c => exact LV.get_ok (by simpa [AV.get] using hg) h
  | agg cs =>
    simp only [AV.get] at hg
    split at hg
    · rename_i y ha hj
      simp at hg; subst hg
      obtain ⟨vs, rfl, hvs⟩ := h
      obtain ⟨v1, v2, rfl, h1, h2⟩ := t.join_ok hj hvs
      have : v2 = [] := by cases v2 with
        | nil => rfl
        | cons _ _ => exact h2.elim
      subst this
      refine ⟨ha.symm, ?_⟩
      simpa [Value.cells] using h1
    · simp at hg
  | tup => simp [AV.get] at hg
  | g => simp [AV.get] at hg
  | gt => simp [AV.get] at hg

/-- Cells read. -/
theorem readCells_ok {H : Nat → Prop} {w : World} {ρ : Nat → Value} {t : Ty} {cs : List LV} {r : AV} {vs : List Value} (hr : readCells t cs = some r) (h : All2 (RepC H w ρ) cs vs) : RepV H w ρ r (mkV t.isAgg vs) := by
  unfold readCells at hr
  split at hr
  · rename_i ha
    rw [ha]
    split at hr
    · rename_i y _ hj
      simp at hr; subst hr
      obtain ⟨v1, v2, rfl, h1, h2⟩ := t.join_ok hj h
      have : v2 = [] := by cases v2 with
        | nil => rfl
        | cons _ _ => exact h2.elim
      subst this
      exact ⟨by simp [mkV, ha], by simpa [mkV, Value.cells] using h1⟩
    · simp at hr; subst hr
      exact ⟨vs, rfl, h⟩
  · rename_i ha
    rw [ha]
    split at hr
    · simp at hr; subst hr
      match vs, h with
      | [v], h => exact h.1.1
    · simp at hr

/-- The fields of a struct. -/
theorem Ty.rep_field {H : Nat → Prop} {w : World} : ∀ (k : Nat) (t : Ty) {cs : List Value} {x : t.D}, t.rep H w cs x → k < t.fields.length → (t.fieldTy k).rep H w ((cs.drop (t.fieldOff k)).take (t.fieldTy k).w) (t.fieldOf k x) ∧ t.fieldOff k + (t.fieldTy k).w ≤ cs.length
  | 0, .pair a b, cs, x, ⟨c, d, e, h1, h2⟩, _ => by
    subst e
    have hl := a.rep_length h1
    simp only [Ty.fieldOff, Ty.fieldTy, Ty.fieldOf, List.drop_zero, ← hl, List.take_left, List.length_append]
    exact ⟨h1, by omega⟩
  | n + 1, .pair a b, cs, x, ⟨c, d, e, h1, h2⟩, hk => by
    subst e
    have hl := a.rep_length h1
    have := b.rep_field n h2 (by simpa [Ty.fields] using hk)
    simp only [Ty.fieldOff, Ty.fieldTy, Ty.fieldOf, ← hl, ← List.drop_drop, List.drop_left, List.length_append]
    exact ⟨this.1, by omega⟩
  | 0, .int k, cs, x, h, _ => by have hl := Ty.rep_length (.int k) h; simp only [Ty.fieldOff, Ty.fieldTy, Ty.fieldOf, List.drop_zero, ← hl, List.take_length]; exact ⟨h, by omega⟩
  | 0, .bool, cs, x, h, _ => by have hl := Ty.rep_length .bool h; simp only [Ty.fieldOff, Ty.fieldTy, Ty.fieldOf, List.drop_zero, ← hl, List.take_length]; exact ⟨h, by omega⟩
  | 0, .str, cs, x, h, _ => by have hl := Ty.rep_length .str h; simp only [Ty.fieldOff, Ty.fieldTy, Ty.fieldOf, List.drop_zero, ← hl, List.take_length]; exact ⟨h, by omega⟩
  | 0, .func, cs, x, h, _ => by have hl := Ty.rep_length .func h; simp only [Ty.fieldOff, Ty.fieldTy, Ty.fieldOf, List.drop_zero, ← hl, List.take_length]; exact ⟨h, by omega⟩
  | 0, .st t, cs, x, h, _ => by have hl := Ty.rep_length (.st t) h; simp only [Ty.fieldOff, Ty.fieldTy, Ty.fieldOf, List.drop_zero, ← hl, List.take_length]; exact ⟨h, by omega⟩
  | 0, .arr n t, cs, x, h, _ => by have hl := Ty.rep_length (.arr n t) h; simp only [Ty.fieldOff, Ty.fieldTy, Ty.fieldOf, List.drop_zero, ← hl, List.take_length]; exact ⟨h, by omega⟩
  | 0, .slice t, cs, x, h, _ => by have hl := Ty.rep_length (.slice t) h; simp only [Ty.fieldOff, Ty.fieldTy, Ty.fieldOf, List.drop_zero, ← hl, List.take_length]; exact ⟨h, by omega⟩
  | 0, .ptr t, cs, x, h, _ => by have hl := Ty.rep_length (.ptr t) h; simp only [Ty.fieldOff, Ty.fieldTy, Ty.fieldOf, List.drop_zero, ← hl, List.take_length]; exact ⟨h, by omega⟩
  | 0, .opt t, cs, x, h, _ => by have hl := Ty.rep_length (.opt t) h; simp only [Ty.fieldOff, Ty.fieldTy, Ty.fieldOf, List.drop_zero, ← hl, List.take_length]; exact ⟨h, by omega⟩
  | _, .unit, _, _, _, hk => by simp [Ty.fields] at hk
  | n + 1, .int _, _, _, _, hk | n + 1, .bool, _, _, _, hk | n + 1, .str, _, _, _, hk | n + 1, .st _, _, _, _, hk | n + 1, .arr _ _, _, _, _, hk | n + 1, .slice _, _, _, _, hk | n + 1, .ptr _, _, _, _, hk | n + 1, .opt _, _, _, _, hk | n + 1, .func, _, _, _, hk => by
    simp [Ty.fields] at hk

end Go.Cm
end

section
/- The machine is right: each operation that makes and writes nothing. -/
namespace Go.Cm
open Go.RowKit

theorem run_unLV {P : Program} {w : World} {op : UnOp} {a v : LV} {val : Value} {H : Nat → Prop} {ρ : Nat → Value} (h : unLV op a = some v) (ha : RepL H w ρ a val) :
    ∃ r, (Op.unary op val).run P w = .ok r w ∧ RepL H w ρ v r := by
  unfold unLV at h
  split at h <;> simp at h <;> subst h
  · rw [int_val ha]
    exact ⟨_, by simp [Op.unary, Op.intArith], rep_int⟩
  · rw [bool_val ha]
    exact ⟨_, by simp [Op.unary], rep_bool⟩

theorem run_equalIn_bool {P : Program} {w : World} {ty : TypeId} (hu : P.underlying ty = some .bool) (d : Nat) (a b : Bool) : (Op.equalIn (d + 1) ty (.bool a) (.bool b)).run P w = .ok (a == b) w := by
  simp [Op.equalIn, run_underlying hu]
theorem run_equalIn_nil {P : Program} {w : World} {ty e : TypeId} (hu : P.underlying ty = some (.pointer e)) (d : Nat) (a : Option Addr) : (Op.equalIn (d + 1) ty (.pointer a) (.pointer none)).run P w = .ok a.isNone w := by
  cases a <;> simp [Op.equalIn, run_underlying hu]
theorem run_eql_bool {P : Program} {w : World} {ty : TypeId} (hu : P.underlying ty = some .bool) (a b : Bool) : (binOp .eql ty (.bool a) (.bool b)).run P w = .ok (.bool (a == b)) w := by
  simp only [binOp]
  simp [Op.equal, Op.maxDepth, run_equalIn_bool (w := w) hu 9999 a b]
theorem run_neq_bool {P : Program} {w : World} {ty : TypeId} (hu : P.underlying ty = some .bool) (a b : Bool) : (binOp .neq ty (.bool a) (.bool b)).run P w = .ok (.bool (a != b)) w := by
  simp only [binOp]
  simp [Op.equal, Op.maxDepth, run_equalIn_bool (w := w) hu 9999 a b, bne]
theorem run_eql_nil {P : Program} {w : World} {ty e : TypeId} (hu : P.underlying ty = some (.pointer e)) (a : Option Addr) : (binOp .eql ty (.pointer a) (.pointer none)).run P w = .ok (.bool a.isNone) w := by
  simp only [binOp]
  simp [Op.equal, Op.maxDepth, run_equalIn_nil (w := w) hu 9999 a]
theorem run_neq_nil {P : Program} {w : World} {ty e : TypeId} (hu : P.underlying ty = some (.pointer e)) (a : Option Addr) : (binOp .neq ty (.pointer a) (.pointer none)).run P w = .ok (.bool a.isSome) w := by
  simp only [binOp]
  simp [Op.equal, Op.maxDepth, run_equalIn_nil (w := w) hu 9999 a]

theorem run_binLV {P : Program} {T : Tab} (hT : TabOK P T) {w : World} {op : BinOp} {ty : TypeId} {x y : Operand} {a b v : LV} {va vb : Value} {C : Prop} {H : Nat → Prop} {ρ : Nat → Value} (h : binLV (get? T.types ty) op a b = some (C, v)) (hC : C) (ha : RepL H w ρ a va) (hb : RepL H w ρ b vb) :
    ∃ r, (do eqGuard op ty x y va vb; binOp op ty va vb : Sem Value).run P w = .ok r w ∧ RepL H w ρ v r := by
  have guard : ∀ {va vb : Value}, isAggV va = false → (va ≠ .nilIface) → (eqGuard op ty x y va vb).run P w = .ok () w := by
    intro va vb h1 h2
    unfold eqGuard
    cases op <;> first
      | rfl
      | (cases va <;> first
          | (simp [isAggV] at h1; done)
          | exact absurd rfl h2
          | rfl)
  have step : ∀ {va vb : Value} {r : Value}, isAggV va = false → va ≠ .nilIface → (binOp op ty va vb).run P w = .ok r w → (do eqGuard op ty x y va vb; binOp op ty va vb : Sem Value).run P w = .ok r w := by
    intro va vb r h1 h2 h3
    rw [Sem.run_bind, guard h1 h2]; exact h3
  unfold binLV at h
  split at h
  · rw [int_val ha, int_val hb]
    obtain ⟨r, h1, h2⟩ := run_intBin (P := P) (w := w) (ty := ty) h hC H ρ
    exact ⟨r, step rfl (by simp) h1, h2⟩
  · rw [str_val ha, str_val hb]
    obtain ⟨r, h1, h2⟩ := run_strBin (P := P) (w := w) (ty := ty) h hC H ρ
    exact ⟨r, step rfl (by simp) h1, h2⟩
  · split at h
    · rename_i hty
      rw [bool_val ha, bool_val hb]
      obtain ⟨i, d, -, hu, -, -, -, hs⟩ := hT.types _ _ hty
      have hd : d = .bool := hs
      subst hd
      cases op <;> simp only [boolBin] at h <;> cases h
      · exact ⟨_, step rfl (by simp) (run_eql_bool hu _ _), rep_bool⟩
      · exact ⟨_, step rfl (by simp) (run_neq_bool hu _ _), rep_bool⟩
    · simp at h
  · rename_i t a v
    have hv : vb = v := hb
    subst hv
    obtain ⟨ha1, ha2⟩ := ha
    split at h
    · rename_i u hn hty
      cases h
      obtain ⟨i, d, -, hu, -, -, -, hs⟩ := hT.types _ _ hty
      obtain ⟨e, hd⟩ := hs
      subst hd
      cases vb <;> simp [isNilP] at hn
      subst hn
      cases va <;> simp [Ty.isAgg, Value.cells, Ty.rep] at ha1 ha2
      all_goals cases a <;> simp at ha2
      · subst ha2
        exact ⟨_, step rfl (by simp) (run_eql_nil hu _), rep_bool⟩
      · obtain ⟨b, o, he, _⟩ := ha2
        subst he
        exact ⟨_, step rfl (by simp) (run_eql_nil hu _), rep_bool⟩
    · rename_i u hn hty
      cases h
      obtain ⟨i, d, -, hu, -, -, -, hs⟩ := hT.types _ _ hty
      obtain ⟨e, hd⟩ := hs
      subst hd
      cases vb <;> simp [isNilP] at hn
      subst hn
      cases va <;> simp [Ty.isAgg, Value.cells, Ty.rep] at ha1 ha2
      all_goals cases a <;> simp at ha2
      · subst ha2
        exact ⟨_, step rfl (by simp) (run_neq_nil hu _), rep_bool⟩
      · obtain ⟨b, o, he, _⟩ := ha2
        subst he
        exact ⟨_, step rfl (by simp) (run_neq_nil hu _), rep_bool⟩
    · simp at h
  · simp at h

theorem nilS_val {v : Value} (h : isNilS v = true) : v = .slice none 0 0 := by
  cases v <;> simp [isNilS] at h
  obtain ⟨⟨rfl, rfl⟩, rfl⟩ := h; rfl

theorem rowAt_len {M : Nat → Prop} {w : World} {e : TypeId} {size n m c : Nat} {v : Value} {xs : List Value} {a : Option Addr} (h : rowAt M w e size v n xs) (hv : v = .slice a m c) : m = n := by
  obtain ⟨_, ⟨h, hn⟩ | ⟨g, cap, cur, h, _⟩⟩ := h <;> (rw [hv] at h; simp at h; omega)

theorem run_len {P : Program} {T : Tab} (hT : TabOK P T) {w : World} {ty t : TypeId} {u : Ty} (hu : get? T.types ty = some u) {own : List (Nat × OObj)} {a v : LV} {val : Value} {H : Nat → Prop} {ρ : Nat → Value} {M : Nat → Prop}
    (hown : ∀ p ∈ own, OwnOK H w ρ M p) (h : lenLV own u a = some v) (ha : RepL H w ρ a val) :
    ∃ r, (Builtin.len_ #[ty] t #[val]).run P w = .ok r w ∧ RepL H w ρ v r := by
  obtain ⟨i, d, -, hud, -, -, -, hs⟩ := hT.types _ _ hu
  unfold lenLV at h
  split at h
  · split at h
    · simp at h; subst h
      obtain ⟨e, j, rfl, _⟩ := hs
      obtain ⟨p, cap, rfl, _⟩ := slice_val ha
      exact ⟨_, by simp [Builtin.len_, run_underlying hud, goInt], rep_int⟩
    · simp at h
  · split at h
    · simp at h; subst h
      have hd : d = .string := hs
      subst hd
      rw [str_val ha]
      rename_i l _
      have : (⟨l.toArray⟩ : ByteArray).size = l.length := by show l.toArray.size = _; simp
      exact ⟨.int .i64 l.length, by rw [← this]; simp [Builtin.len_, run_underlying hud, goInt], rep_int⟩
    · simp at h
  · split at h
    · rename_i t' T' xs t0 hg
      simp at h; subst h
      obtain ⟨e, j, rfl, -⟩ := hs
      obtain ⟨hv, b, n, c, hv2⟩ := ha
      obtain ⟨cells, -, hrow⟩ := hown _ (get?_mem hg)
      have hn : n = xs.length := by
        rw [← hv, hv2] at hrow
        obtain ⟨_, hr⟩ := hrow
        rcases hr with ⟨he, hn⟩ | ⟨g, cap, cur, he, _⟩
        · simp at he; omega
        · simp at he; omega
      subst hv2; subst hn
      exact ⟨_, by simp [Builtin.len_, run_underlying hud, goInt], rep_int⟩
    · rename_i t' T' pre xs post t0 hg
      simp at h; subst h
      obtain ⟨e, j, rfl, -⟩ := hs
      obtain ⟨hv, b, n, c, hv2⟩ := ha
      obtain ⟨g, cap, cells, cur, -, hρ, -⟩ := hown _ (get?_mem hg)
      rw [hv, hρ]
      exact ⟨_, by simp [Builtin.len_, run_underlying hud, goInt], rep_int⟩
    · rename_i t' T' xs t0 hg
      simp at h; subst h
      obtain ⟨e, j, rfl, -⟩ := hs
      obtain ⟨hv, b, n, c, hv2⟩ := ha
      obtain ⟨cells, -, -, hr⟩ := hown _ (get?_mem hg)
      have hn : n = xs.length := by
        rw [← hv, hv2] at hr
        rcases hr with ⟨he, hn⟩ | ⟨g, off, cap, cur, he, _⟩
        · simp at he; omega
        · simp at he; omega
      subst hv2; subst hn
      exact ⟨_, by simp [Builtin.len_, run_underlying hud, goInt], rep_int⟩
    · simp at h
  · split at h
    · rename_i hg
      simp only [Option.some.injEq] at h; subst h
      obtain ⟨e, j, rfl, -⟩ := hs
      obtain ⟨b, n, c, hv, hi, rfl⟩ := ha
      obtain ⟨cells, -, hrow⟩ := hown _ (get?_mem hg)
      have hn := rowAt_len hrow hv
      subst hn
      exact ⟨_, by simp [Builtin.len_, run_underlying hud, goInt], rep_int⟩
    · simp at h
  · split at h
    · rename_i hg
      simp at h; subst h
      obtain ⟨e, j, rfl, -⟩ := hs
      obtain ⟨p, n, c, vs, hv, rfl⟩ := ha
      obtain ⟨h0, vs', cells, h1, h2⟩ := hown _ (get?_mem hg)
      rw [hv] at h1
      simp only [Value.tuple.injEq, Array.mk.injEq, List.cons.injEq] at h1
      have hn := rowAt_len h2.hdr h1.1.symm
      subst hn
      exact ⟨_, by simp [Builtin.len_, run_underlying hud, goInt], rep_int⟩
    · simp at h
  · split at h
    · split at h
      · rename_i hn
        simp at h; subst h
        obtain ⟨e, j, rfl, _⟩ := hs
        have hv : val = _ := ha
        rw [hv, nilS_val hn]
        exact ⟨_, by simp [Builtin.len_, run_underlying hud, goInt], rep_int⟩
      · simp at h
    · simp at h
  · simp at h

theorem intArg_ok {d : Int} {l : Option LV} {n : Int} (h : intArg d l = some n) : (l = none ∧ n = d) ∨ ∃ k, l = some (.z (.int k) n) := by
  unfold intArg at h
  split at h
  · simp at h; exact .inl ⟨rfl, h.symm⟩
  · rename_i k a; simp at h; subst h; exact .inr ⟨k, rfl⟩
  · simp at h

/-- An operand that may be missing. -/
def OptRep (H : Nat → Prop) (w : World) (ρ : Nat → Value) : Option LV → Option Value → Prop
  | none, none => True
  | some x, some v => RepL H w ρ x v
  | _, _ => False

theorem optLeaf_ok {X : Cx} {s : AState} {a : Act} {w : World} {ρ : Nat → Value} (h : Fits X s a w ρ) {x : Option Operand} {l : Option LV} (he : optLeaf s x = some l) : OptRep (hot X.O ρ s.own) w ρ l (x.map a.eval) := by
  cases x with
  | none => simp [optLeaf] at he; subst he; trivial
  | some x =>
    simp only [optLeaf] at he
    split at he
    · rename_i v hv; simp at he; subst he; exact leaf_ok h hv
    · simp at he

theorem run_bound {P : Program} {w : World} {k : IntKind} {n : Int} {m : Nat} {c : BoundsCode} (h0 : 0 ≤ n) (h : n ≤ m) : (Instr.sliceBound (.int k n) m c).run P w = .ok n.toNat w := by
  simp [Instr.sliceBound, asIntOf, h0, h]

theorem run_bounds {P : Program} {w : World} {isSlice : Bool} {len cap : Nat} {H : Nat → Prop} {ρ : Nat → Value} {lo hi : Option LV} {vlo vhi : Option Value} (hlo : OptRep H w ρ lo vlo) (hhi : OptRep H w ρ hi vhi) {l h : Int}
    (e1 : intArg 0 lo = some l) (e2 : intArg len hi = some h) (h0 : 0 ≤ l) (h1 : l ≤ h) (h2 : h ≤ len) (hc : len ≤ cap) :
    (Instr.sliceBounds isSlice len cap vlo vhi none).run P w = .ok (l.toNat, h.toNat, cap) w := by
  rcases intArg_ok e1 with ⟨rfl, rfl⟩ | ⟨k, rfl⟩ <;> rcases intArg_ok e2 with ⟨rfl, rfl⟩ | ⟨k', rfl⟩
  · cases vlo <;> cases vhi <;> simp [OptRep] at hlo hhi
    simp [Instr.sliceBounds]
  · cases vlo <;> cases vhi <;> simp only [OptRep] at hlo hhi
    rw [int_val hhi]
    simp [Instr.sliceBounds, run_bound (P := P) (w := w) (show 0 ≤ h by omega) (show h ≤ (cap : Int) by omega)]
  · cases vlo <;> cases vhi <;> simp only [OptRep] at hlo hhi
    rw [int_val hlo]
    simp [Instr.sliceBounds, run_bound (P := P) (w := w) (show 0 ≤ l by omega) (show l ≤ (len : Int) by omega)]
  · cases vlo <;> cases vhi <;> simp only [OptRep] at hlo hhi
    rw [int_val hlo, int_val hhi]
    have : l ≤ ((h.toNat : Nat) : Int) := by omega
    simp [Instr.sliceBounds, run_bound (P := P) (w := w) (show 0 ≤ h by omega) (show h ≤ (cap : Int) by omega), run_bound (P := P) (w := w) (show 0 ≤ l by omega) this]

theorem addr_add (b o : Nat) (p : Option Nat) (k : Nat) : (⟨b, o, p⟩ : Addr).add k = ⟨b, o + k, if k = 0 then p else none⟩ := by
  unfold Addr.add
  split
  · rename_i h; subst h; rfl
  · rfl

/-- A part of a slice. -/
theorem rep_part {H : Nat → Prop} {w : World} {ρ : Nat → Value} {t : Ty} {xs : List t.D} {b o cap : Nat} {p : Option Nat} (h : RepL H w ρ (.z (.slice t) xs) (.slice (some ⟨b, o, p⟩) xs.length cap)) {l m n : Nat} (hlm : l ≤ n) (hn : n ≤ xs.length) (hm : n ≤ m) (hc : m ≤ cap) (o' : Nat) (ho : l < m → o' = o + l * t.w) (p' : Option Nat) (hp' : p' = p ∨ p' = none) :
    RepL H w ρ (.z (.slice t) ((xs.take n).drop l)) (.slice (some ⟨b, o', p'⟩) (n - l) (m - l)) := by
  rw [RepL_z] at h ⊢
  refine ⟨rfl, .inr ?_⟩
  have h2 : Ty.rep H w (.slice t) [.slice (some ⟨b, o, p⟩) xs.length cap] xs := h.2
  rcases h2 with ⟨he, _⟩ | ⟨b', o'', p2, cap', cells, he, hxp, hx1, hx2, hx3, hx4⟩
  · simp at he
  · simp at he
    obtain ⟨⟨rfl, rfl, rfl⟩, rfl⟩ := he
    have hR : ∀ (c : List Value) (x : t.D), t.rep H w c x → c.length = t.w := fun c x h => t.rep_length h
    have hlen : ((xs.take n).drop l).length = n - l := by simp; omega
    have hcut := repL_drop hR l (repL_take hR n hx3)
    refine ⟨b, o', p', m - l, (cells.take (n * t.w)).drop (l * t.w), by rw [hlen]; rfl, fun hne => by
      have hq := hxp (fun e => hne (by rw [e]; simp))
      rcases hp' with h | h
      · rw [h, hq]
      · exact h, by rw [hlen]; omega, by omega, hcut, ?_⟩
    by_cases hlt : l < n
    · have := ho (by omega)
      subst this
      have hcl := repL_length hR hx3
      have := hx4.sub (l * t.w) (n * t.w - l * t.w)
      rwa [← List.drop_take] at this
    · have : (cells.take (n * t.w)).drop (l * t.w) = [] := by
        apply List.drop_eq_nil_of_le
        rw [List.length_take]
        have := Nat.mul_le_mul_right t.w (show n ≤ l by omega)
        omega
      rw [this]
      exact ⟨fun h => absurd rfl h, fun j hj => by simp at hj⟩

end Go.Cm
end

section
/- The machine is right: all operations that make and write nothing. -/
namespace Go.Cm
open Go.RowKit

theorem run_value {P : Program} {w w' : World} {s : Sem Value} {r : Value} (h : s.run P w = .ok r w') : (do pure (.value (← s)) : Sem Next).run P w = .ok (.value r) w' := by
  rw [Sem.run_bind, h]; rfl

theorem own_val {H : Nat → Prop} {w : World} {ρ : Nat → Value} {M : Nat → Prop} {own : List (Nat × OObj)} (hown : ∀ p ∈ own, OwnOK H w ρ M p) {id T : Nat} {t : Ty} {xs : List t.D} (hg : get? own id = some (.arr t T xs)) {a : Option Addr} {n c : Nat} (hv : ρ id = .slice a n c) :
    n = xs.length ∧ ∃ cells, repL (fun c x => t.rep H w c x) cells xs ∧ cells.length = xs.length * t.w ∧
      ((a = none ∧ xs = [] ∧ c = 0) ∨ ∃ g, a = some ⟨g, 0, none⟩ ∧ M g ∧ xs.length ≤ c ∧ c ≤ maxLen ∧ ∃ cur : Array Value, w.heap[g]? = some (.cells cur T (0, 0)) ∧ cur.size = c * t.w ∧ cur.toList.take (xs.length * t.w) = cells) := by
  obtain ⟨cells, hr, hrow⟩ := hown _ (get?_mem hg)
  simp only [hv] at hrow
  obtain ⟨hl, hrow⟩ := hrow
  rcases hrow with ⟨he, hn⟩ | ⟨g, cap, cur, he, hb, hh, h1, h2, h3, h4⟩
  · simp at he
    obtain ⟨rfl, rfl, rfl⟩ := he
    have hx : xs = [] := List.eq_nil_of_length_eq_zero hn
    exact ⟨hn.symm, cells, hr, hl, .inl ⟨rfl, hx, rfl⟩⟩
  · simp at he
    obtain ⟨rfl, rfl, rfl⟩ := he
    exact ⟨rfl, cells, hr, hl, .inr ⟨g, rfl, hb, h1, h2, cur, hh, h3, h4⟩⟩

theorem win_val {H : Nat → Prop} {w : World} {ρ : Nat → Value} {M : Nat → Prop} {own : List (Nat × OObj)} (hown : ∀ p ∈ own, OwnOK H w ρ M p) {id T : Nat} {t : Ty} {pre xs post : List t.D} (hg : get? own id = some (.win t T pre xs post)) {b o n c : Nat} (hv : ρ id = .slice (some ⟨b, o, none⟩) n c) :
    n = xs.length ∧ o = pre.length * t.w ∧ M b ∧ ∃ cells, repL (fun c x => t.rep H w c x) cells (pre ++ (xs ++ post)) ∧ cells.length = (pre ++ (xs ++ post)).length * t.w ∧ xs.length ≤ c ∧ c ≤ maxLen ∧ pre.length + c ≤ maxLen ∧ post.length + xs.length ≤ c ∧
      ∃ cur : Array Value, w.heap[b]? = some (.cells cur T (0, 0)) ∧ cur.size = (pre.length + c) * t.w ∧ cur.toList.take ((pre ++ (xs ++ post)).length * t.w) = cells := by
  obtain ⟨g, cap, cells, cur, hr, h1, h2, h3, h4, h5, h6, h7, h8, h9⟩ := hown _ (get?_mem hg)
  rw [hv] at h1
  simp at h1
  obtain ⟨⟨rfl, rfl⟩, rfl, rfl⟩ := h1
  exact ⟨rfl, rfl, h2, cells, hr, repL_length (fun c x h => t.rep_length h) hr, h4, h5, h6, h8, cur, h3, h7, h9⟩

theorem cell_take {w : World} {g T : Nat} {cur : Array Value} {n : Nat} {cells : List Value} (hh : w.heap[g]? = some (.cells cur T (0, 0))) (ht : cur.toList.take n = cells) {j : Nat} (hj : j < cells.length) : w.cell? ⟨g, 0 + j, none⟩ = cells[j]? := by
  rw [Nat.zero_add, cell_of_row w g j cur T (0, 0) hh]
  subst ht
  have : j < n := by simp only [List.length_take] at hj; omega
  rw [List.getElem?_take_of_lt this]; simp

theorem que_val {H : Nat → Prop} {w : World} {ρ : Nat → Value} {M : Nat → Prop} {own : List (Nat × OObj)} (hown : ∀ p ∈ own, OwnOK H w ρ M p) {id T : Nat} {t : Ty} {xs : List t.D} (hg : get? own id = some (.que t T xs)) {a : Option Addr} {n c : Nat} (hv : ρ id = .slice a n c) :
    n = xs.length ∧ ∃ cells, repL (fun c x => t.rep H w c x) cells xs ∧ cells.length = xs.length * t.w ∧
      ((a = none ∧ xs = [] ∧ c = 0) ∨ ∃ g off, a = some ⟨g, off * t.w, none⟩ ∧ M g ∧ xs.length ≤ c ∧ off + c ≤ maxLen ∧ ∃ cur : Array Value, w.heap[g]? = some (.cells cur T (0, 0)) ∧ (off + c) * t.w ≤ cur.size ∧ (cur.toList.drop (off * t.w)).take (xs.length * t.w) = cells) := by
  obtain ⟨cells, hr, hrow⟩ := hown _ (get?_mem hg)
  simp only [hv] at hrow
  obtain ⟨hl, hrow⟩ := hrow
  rcases hrow with ⟨he, hn⟩ | ⟨g, off, cap, cur, he, hb, hh, h1, h2, h3, h4⟩
  · simp at he
    obtain ⟨rfl, rfl, rfl⟩ := he
    have hx : xs = [] := List.eq_nil_of_length_eq_zero hn
    exact ⟨hn.symm, cells, hr, hl, .inl ⟨rfl, hx, rfl⟩⟩
  · simp at he
    obtain ⟨rfl, rfl, rfl⟩ := he
    exact ⟨rfl, cells, hr, hl, .inr ⟨g, off, rfl, hb, h1, h2, cur, hh, h3, h4⟩⟩

theorem cell_mid {w : World} {g T : Nat} {cur : Array Value} {o n : Nat} {cells : List Value} (hh : w.heap[g]? = some (.cells cur T (0, 0))) (ht : (cur.toList.drop o).take n = cells) {j : Nat} (hj : j < cells.length) : w.cell? ⟨g, o + j, none⟩ = cells[j]? := by
  rw [cell_of_row w g (o + j) cur T (0, 0) hh]
  subst ht
  have : j < n := by simp only [List.length_take] at hj; omega
  rw [List.getElem?_take_of_lt this, List.getElem?_drop]; simp

theorem opt_val {H : Nat → Prop} {w : World} {t : Ty} {x : t.D} {v : Value} {ρ : Nat → Value} (h : RepL H w ρ (.z (.opt t) (some x)) v) : ∃ b o cells, v = .pointer (some ⟨b, o, none⟩) ∧ t.rep H w cells x ∧ LiesAt H w b o cells :=
  ptr_val (t := t) (x := x) (ρ := ρ) h

theorem rowAt_cell {M : Nat → Prop} {w : World} {e : TypeId} {size n m c b : Nat} {v : Value} {xs : List Value} (h : rowAt M w e size v n xs) (hv : v = .slice (some ⟨b, 0, none⟩) m c) {j : Nat} (hj : j < xs.length) : w.cell? ⟨b, 0 + j, none⟩ = xs[j]? := by
  obtain ⟨_, ⟨h, hn⟩ | ⟨g, cap, cur, h, hM, hh, _, _, _, ht⟩⟩ := h
  · rw [hv] at h; simp at h
  · rw [hv] at h; simp at h
    obtain ⟨rfl, rfl, rfl⟩ := h
    exact cell_take hh ht hj

theorem rowAt_slice {M : Nat → Prop} {w : World} {e : TypeId} {size n : Nat} {v : Value} {xs : List Value} (h : rowAt M w e size v n xs) : ∃ a c, v = .slice a n c := by
  obtain ⟨_, ⟨h, hn⟩ | ⟨g, cap, cur, h, _⟩⟩ := h
  · exact ⟨none, 0, by rw [h, hn]⟩
  · exact ⟨_, _, h⟩

theorem mat_val {H : Nat → Prop} {w : World} {ρ : Nat → Value} {M : Nat → Prop} {own : List (Nat × OObj)} (hown : ∀ p ∈ own, OwnOK H w ρ M p) {id : Nat} {t : Ty} {T E : TypeId} {rows : List (Option (List t.D))} {idx : List (Option Nat)} (hg : get? own id = some (.mat t T E rows idx)) {h : Value} {vs : List Value} (hv : ρ id = .tuple ⟨h :: vs⟩) :
    ∃ cells : List Value, MatOK (fun c x => t.rep H w c x) t.w M w T E rows idx h vs cells := by
  obtain ⟨h0, vs', cells, h1, h2⟩ := hown _ (get?_mem hg)
  rw [hv] at h1
  simp only [Value.tuple.injEq, Array.mk.injEq, List.cons.injEq] at h1
  obtain ⟨rfl, rfl⟩ := h1
  exact ⟨cells, h2⟩

theorem live_some {α : Type} {rows : List (Option (List α))} {j : Nat} (h : live rows j = true) : rows[j]? = some (some (rowOf rows j)) ∧ j < rows.length := by
  unfold live at h
  unfold rowOf
  cases hj : rows[j]? with
  | none => rw [hj] at h; simp at h
  | some o => cases o with
    | none => rw [hj] at h; simp at h
    | some xs => exact ⟨rfl, (List.getElem?_eq_some_iff.1 hj).1⟩

theorem rowIx_some {idx : List (Option Nat)} {i : Nat} (h : (rowIx idx i).isSome = true) : idx[i]? = some (some ((rowIx idx i).getD 0)) := by
  unfold rowIx at *
  cases hi : idx[i]? with
  | none => rw [hi] at h; simp at h
  | some o => cases o with
    | none => rw [hi] at h; simp at h
    | some j => simp

theorem run_load {X : Cx} (hT : TabOK X.P X.T) {s : AState} {a : Act} {w : World} {ρ : Nat → Value} (h : Fits X s a w ρ) {t : TypeId} {x : Operand} {C : Prop} {v : AV} (he : pureOp X.T s (.load t x) = some (C, v)) (hC : C) :
    ∃ val, (Instr.loadAt t (a.eval x)).run X.P w = .ok val w ∧ RepV (hot X.O ρ s.own) w ρ v val := by
  simp only [pureOp] at he
  split at he
  · rename_i u y vt hx ht
    split at he
    · rename_i e; subst e; cases he
      obtain ⟨b, o, cells, hv, h1, h2⟩ := ptr_val (leaf_ok h hx)
      rw [hv]
      exact ⟨_, run_loadAt (hT.types _ _ ht) (u.rep_length h1) h2.2, RepL_mkV (ρ := ρ) (hT.types _ _ ht) h1⟩
    · cases he
  · rename_i id off vt hx ht
    split at he
    · rename_i T cs hg
      split at he
      · rename_i hle
        split at he
        · rename_i r hr
          cases he
          obtain ⟨b, hb, hv⟩ := leaf_ok h hx
          obtain ⟨b', vs, hb', hbase, hh, hcs⟩ := h.own _ (get?_mem hg)
          rw [hb] at hb'; simp at hb'; subst hb'
          have hlen := hcs.length
          have hsub := All2.take vt.w (All2.drop off hcs)
          have hl : ((vs.drop off).take vt.w).length = vt.w := by simp; omega
          rw [hv]
          refine ⟨_, run_loadAt (hT.types _ _ ht) hl (fun j hj => ?_), readCells_ok hr hsub⟩
          rw [cell_of_row w b _ vs.toArray T (0, 0) hh]
          rw [hl] at hj
          rw [List.getElem?_take_of_lt hj, List.getElem?_drop]; simp
        · cases he
      · cases he
    · cases he
  · rename_i id wd i vt hx ht
    split at he
    · rename_i u T xs hg
      split at he
      · rename_i e
        obtain ⟨rfl, rfl⟩ := e
        cases he
        obtain ⟨b, o', n, c, hb, hv⟩ := leaf_ok h hx
        obtain ⟨_, cells, hr, hl, hor⟩ := own_val h.own hg hb
        rcases hor with ⟨hno, _⟩ | ⟨g, hg', hbase, h1, h2, cur, hh, h3, h4⟩
        · cases hno
        · simp at hg'; obtain ⟨rfl, rfl⟩ := hg'
          have hel := repL_get (fun c x h => u.rep_length h) hr i hC
          rw [hv, Nat.zero_add]
          have hle := u.rep_length hel
          have hn : nth u xs i = xs[i] := by simp [nth, List.getD, hC]
          refine ⟨_, run_loadAt (hT.types _ _ ht) hle (fun j hj => ?_), ?_⟩
          · have hj' : i * u.w + j < cells.length := by
              rw [hle] at hj
              have : (i + 1) * u.w ≤ xs.length * u.w := Nat.mul_le_mul_right _ hC
              rw [Nat.succ_mul] at this
              omega
            have := cell_take hh h4 hj'
            rw [Nat.zero_add] at this
            rw [this]
            rw [hle] at hj
            rw [List.getElem?_take_of_lt hj, List.getElem?_drop]
          · have := RepL_mkV (ρ := ρ) (hT.types _ _ ht) hel
            rw [← hn] at this
            exact this
      · cases he
    · rename_i u T pre xs post hg
      split at he
      · rename_i e
        obtain ⟨rfl, rfl⟩ := e
        cases he
        obtain ⟨b, o', n, c, hb, hv⟩ := leaf_ok h hx
        obtain ⟨_, rfl, _, cells, hr, hl, h1, h2, h2', h2'', cur, hh, h3, h4⟩ := win_val h.own hg hb
        have hi : pre.length + i < (pre ++ (xs ++ post)).length := by simp; omega
        have hel := repL_get (fun c x h => u.rep_length h) hr (pre.length + i) hi
        have e2 : pre.length * u.w + i * u.w = (pre.length + i) * u.w := (Nat.add_mul ..).symm
        rw [hv, e2]
        have hle := u.rep_length hel
        have hn : nth u xs i = (pre ++ (xs ++ post))[pre.length + i] := by
          rw [List.getElem_append_right (Nat.le_add_right _ _)]
          simp only [Nat.add_sub_cancel_left]
          rw [List.getElem_append_left hC]
          simp [nth, List.getD, hC]
        refine ⟨_, run_loadAt (hT.types _ _ ht) hle (fun j hj => ?_), ?_⟩
        · have hj' : (pre.length + i) * u.w + j < cells.length := by
            rw [hle] at hj
            have : (pre.length + i + 1) * u.w ≤ (pre ++ (xs ++ post)).length * u.w := Nat.mul_le_mul_right _ hi
            rw [Nat.succ_mul] at this
            omega
          have := cell_take hh h4 hj'
          rw [Nat.zero_add] at this
          rw [this]
          rw [hle] at hj
          rw [List.getElem?_take_of_lt hj, List.getElem?_drop]
        · have := RepL_mkV (ρ := ρ) (hT.types _ _ ht) hel
          rw [← hn] at this
          exact this
      · cases he
    · rename_i u T xs hg
      split at he
      · rename_i e
        obtain ⟨rfl, rfl⟩ := e
        cases he
        obtain ⟨b, o', n, c, hb, hv⟩ := leaf_ok h hx
        obtain ⟨_, cells, hr, hl, hor⟩ := que_val h.own hg hb
        rcases hor with ⟨hno, _⟩ | ⟨g, off, hg', hbase, h1, h2, cur, hh, h3, h4⟩
        · cases hno
        · simp at hg'; obtain ⟨rfl, rfl⟩ := hg'
          have hel := repL_get (fun c x h => u.rep_length h) hr i hC
          rw [hv]
          have hle := u.rep_length hel
          have hn : nth u xs i = xs[i] := by simp [nth, List.getD, hC]
          refine ⟨_, run_loadAt (hT.types _ _ ht) hle (fun j hj => ?_), ?_⟩
          · have hj' : i * u.w + j < cells.length := by
              rw [hle] at hj
              have : (i + 1) * u.w ≤ xs.length * u.w := Nat.mul_le_mul_right _ hC
              rw [Nat.succ_mul] at this
              omega
            have := cell_mid hh h4 hj'
            rw [← Nat.add_assoc] at this
            rw [this]
            rw [hle] at hj
            rw [List.getElem?_take_of_lt hj, List.getElem?_drop]
          · have := RepL_mkV (ρ := ρ) (hT.types _ _ ht) hel
            rw [← hn] at this
            exact this
      · cases he
    · cases he
  · rename_i id i u hx ht
    split at he
    · rename_i u' T E rows idx hg
      split at he
      · rename_i e; subst e; cases he
        obtain ⟨b, n, c, vs, hb, hv⟩ := leaf_ok h hx
        obtain ⟨cells, hm⟩ := mat_val h.own hg hb
        have h1 := hm.hdr
        have hl := hm.len
        have hi := rowIx_some hC
        obtain ⟨hj, hc⟩ := hm.at_ _ _ hi
        generalize (rowIx idx i).getD 0 = j at *
        have hjv := List.getElem?_eq_getElem (l := vs) (i := j) (by omega)
        obtain ⟨⟨p, q, m, hs⟩, -⟩ := hm.shape (vs[j]'(by omega)) (List.getElem_mem (by omega))
        have hil : i < cells.length := by
          rw [hjv] at hc; exact (List.getElem?_eq_some_iff.1 hc).1
        have hcell := rowAt_cell h1 rfl hil
        rw [hc, hjv, Nat.zero_add] at hcell
        rw [hv]
        refine ⟨_, run_loadAt (hT.types _ _ ht) (cells := [vs[j]]) rfl (fun k hk => ?_), _, vs, p, q, m, hb, hjv, hs⟩
        obtain rfl : k = 0 := by simpa using hk
        exact hcell
      · cases he
    · cases he
  · rename_i id j wd k u hx ht
    split at he
    · rename_i u' T E rows idx hg
      split at he
      · rename_i e
        obtain ⟨rfl, rfl⟩ := e
        cases he
        obtain ⟨h0, vs, b, n, c, hb, hjv, hv⟩ := leaf_ok h hx
        obtain ⟨cells, hm⟩ := mat_val h.own hg hb
        obtain ⟨hj, hk⟩ := hC
        obtain ⟨hj1, hj2⟩ := live_some hj
        generalize rowOf rows j = xs at *
        obtain ⟨cs, hr, h5⟩ := hm.row j _ _ hj1 hjv
        have hcl := h5.1
        have hel := repL_get (fun c x h => u'.rep_length h) hr k hk
        have hle := u'.rep_length hel
        have hn : nth u' xs k = xs[k] := by simp [nth, List.getD, hk]
        rw [hv]
        refine ⟨_, run_loadAt (hT.types _ _ ht) hle (fun q hq => ?_), ?_⟩
        · have hj' : k * u'.w + q < cs.length := by
            rw [hle] at hq
            have : (k + 1) * u'.w ≤ xs.length * u'.w := Nat.mul_le_mul_right _ hk
            rw [Nat.succ_mul] at this
            omega
          have := rowAt_cell h5 rfl hj'
          rw [Nat.zero_add] at this
          rw [this]
          rw [hle] at hq
          rw [List.getElem?_take_of_lt hq, List.getElem?_drop]
        · have := RepL_mkV (ρ := ρ) (hT.types _ _ ht) hel
          rw [← hn] at this
          exact this
      · cases he
    · cases he
  · rename_i u y vt hx ht
    split at he
    · rename_i e; subst e; cases he
      obtain ⟨z, rfl⟩ := Option.isSome_iff_exists.1 hC
      obtain ⟨b, o, cells, hv, h1, h2⟩ := opt_val (leaf_ok h hx)
      rw [hv]
      exact ⟨_, run_loadAt (hT.types _ _ ht) (u.rep_length h1) h2.2, RepL_mkV (ρ := ρ) (hT.types _ _ ht) h1⟩
    · cases he
  · cases he

theorem run_fieldAddr {X : Cx} (hT : TabOK X.P X.T) {s : AState} {a : Act} {w : World} {ρ : Nat → Value} (h : Fits X s a w ρ) {t : TypeId} {x : Operand} {k : Nat} {C : Prop} {v : AV} (he : pureOp X.T s (.fieldAddr t x k) = some (C, v)) (hC : C) :
    ∃ val, (Instr.fieldAt t (a.eval x) k).run X.P w = .ok val w ∧ RepV (hot X.O ρ s.own) w ρ v val := by
  have key : ∀ {u : Ty} {b o : Nat}, get? X.T.types t = some (.st u) → k < u.fields.length → (Instr.fieldAt t (.pointer (some ⟨b, o, none⟩)) k).run X.P w = .ok (.pointer (some ⟨b, o + u.fieldOff k, none⟩)) w := by
    intro u b o ht hk
    obtain ⟨i, d, _, hu, _, _, _, fs, rfl, _, hf⟩ := hT.types _ _ ht
    obtain ⟨f, j, e, h1, h2, h3, h4, h5, h6, h7, h8⟩ := hf k hk
    simp [Instr.fieldAt, run_underlying hu, h1, Instr.sureAddr, fieldPlace, sizeOf, typeInfo, h3, h5, h2, Addr.add_mid]
  simp only [pureOp] at he
  split at he
  · rename_i u y vt hx ht
    split at he
    · rename_i e
      obtain ⟨rfl, hk⟩ := e
      cases he
      obtain ⟨b, o, cells, hv, h1, h2⟩ := ptr_val (leaf_ok h hx)
      rw [hv]
      have h1' : Ty.rep (hot X.O ρ s.own) w u cells y := h1
      have hf := u.rep_field k h1' hk
      exact ⟨_, key ht hk, rfl, b, o + u.fieldOff k, _, rfl, hf.1, h2.sub _ _⟩
    · cases he
  · rename_i u y vt hx ht
    split at he
    · rename_i e
      obtain ⟨rfl, hk⟩ := e
      cases he
      obtain ⟨z, rfl⟩ := Option.isSome_iff_exists.1 hC
      obtain ⟨b, o, cells, hv, h1, h2⟩ := opt_val (leaf_ok h hx)
      rw [hv]
      have h1' : Ty.rep (hot X.O ρ s.own) w u cells z := h1
      have hf := u.rep_field k h1' hk
      exact ⟨_, key ht hk, rfl, b, o + u.fieldOff k, _, rfl, hf.1, h2.sub _ _⟩
    · cases he
  · rename_i id off u hx ht
    split at he
    · rename_i hk
      cases he
      obtain ⟨b, hb, hv⟩ := leaf_ok h hx
      rw [hv]
      exact ⟨_, key ht hk, b, hb, rfl⟩
    · cases he
  · cases he

theorem run_field {X : Cx} (hT : TabOK X.P X.T) {s : AState} {a : Act} {w : World} {ρ : Nat → Value} (h : Fits X s a w ρ) {t : TypeId} {x : Operand} {k : Nat} {C : Prop} {v : AV} (he : pureOp X.T s (.field t x k) = some (C, v)) :
    ∃ val, (Instr.field t (a.eval x) k).run X.P w = .ok val w ∧ RepV (hot X.O ρ s.own) w ρ v val := by
  have key : ∀ {u : Ty} {cs : List Value}, get? X.T.types t = some (.st u) → k < u.fields.length → u.fieldOff k + (u.fieldTy k).w ≤ cs.length → (Instr.field t (.agg cs.toArray) k).run X.P w = .ok (mkV (u.fieldTy k).isAgg ((cs.drop (u.fieldOff k)).take (u.fieldTy k).w)) w := by
    intro u cs ht hk hle
    obtain ⟨i, d, _, hu, _, _, _, fs, rfl, _, hf⟩ := hT.types _ _ ht
    obtain ⟨f, j, e, h1, h2, h3, h4, h5, h6, h7, h8⟩ := hf k hk
    have hagg : (isAgg f.type).run X.P w = .ok (u.fieldTy k).isAgg w := by
      unfold isAgg
      rw [Sem.run_bind, run_underlying h6 w, ← h7]
      cases e <;> simp [TypeDesc.isRow]
    cases hb : (u.fieldTy k).isAgg with
    | true =>
      rw [hb] at hagg
      simp [Instr.field, run_underlying hu, h1, asAgg, part, Sem.run_bind, hagg, sizeOf, typeInfo, h3, h4, h2, mkV]
    | false =>
      rw [hb] at hagg
      have h0 : 0 < (u.fieldTy k).w := by omega
      have hlt : u.fieldOff k < cs.length := by omega
      simp [Instr.field, run_underlying hu, h1, asAgg, part, Sem.run_bind, hagg, h2, mkV, hlt]
      cases hw : (u.fieldTy k).w with
      | zero => omega
      | succ n =>
        have : (List.drop (u.fieldOff k) cs).take (n + 1) = cs[u.fieldOff k] :: ((cs.drop (u.fieldOff k + 1)).take n) := by
          rw [List.drop_eq_getElem_cons hlt, List.take_succ_cons]
        rw [this]; rfl
  simp only [pureOp] at he
  split at he
  · rename_i u y vt hx ht
    split at he
    · rename_i e
      obtain ⟨rfl, hk⟩ := e
      cases he
      have hx' : RepL (hot X.O ρ s.own) w ρ (.z (.st u) y) (a.eval x) := opnd_ok h hx
      obtain ⟨cs, hv, h1⟩ := st_val hx'
      rw [hv]
      have hf := u.rep_field k h1 hk
      refine ⟨_, key ht hk hf.2, ?_⟩
      have hl : (u.fieldTy k).isAgg = false → (u.fieldTy k).w = 1 := by
        intro hb
        have := Ty.rep_length _ hf.1
        obtain ⟨i, d, _, hu, _, _, _, fs, rfl, _, hff⟩ := hT.types _ _ ht
        obtain ⟨f, j, e, h1, h2, h3, h4, h5, h6, h7, h8⟩ := hff k hk
        exact h8 hb
      exact RepL_of_cells (ρ := ρ) hf.1 hl (fun _ => Ty.rep_oneCell _ hf.1)
    · cases he
  · rename_i cs u hx ht
    split at he
    · rename_i hk
      split at he
      · rename_i r hr
        cases he
        obtain ⟨vs, hv, hvs⟩ : RepV (hot X.O ρ s.own) w ρ (.agg cs) (a.eval x) := opnd_ok h hx
        rw [hv]
        have hlen := hvs.length
        exact ⟨_, key ht hk.1 (by omega), readCells_ok hr (All2.take _ (All2.drop _ hvs))⟩
      · cases he
    · cases he
  · cases he

theorem idx_lt {n : Int} {m : Nat} (h : 0 ≤ n ∧ n < m) : n.toNat < m := by omega
theorem take_one {α : Type} (cs : List α) (n : Nat) (h : n < cs.length) : (cs.drop n).take 1 = [cs[n]] := by
  rw [List.drop_eq_getElem_cons h, List.take_succ_cons, List.take_zero]

theorem run_indexAddr {X : Cx} (hT : TabOK X.P X.T) {s : AState} {a : Act} {w : World} {ρ : Nat → Value} (h : Fits X s a w ρ) {t : TypeId} {x i : Operand} {C : Prop} {v : AV} (he : pureOp X.T s (.indexAddr t x i) = some (C, v)) (hC : C) :
    ∃ val, (Instr.indexAt t (a.eval x) (a.eval i)).run X.P w = .ok val w ∧ RepV (hot X.O ρ s.own) w ρ v val := by
  have key : ∀ {u : Ty} {k : IntKind} {b o len cap : Nat} {n : Int}, get? X.T.types t = some (.slice u) → 0 ≤ n → n < len → (Instr.indexAt t (.slice (some ⟨b, o, none⟩) len cap) (.int k n)).run X.P w = .ok (.pointer (some ⟨b, o + n.toNat * u.w, none⟩)) w := by
    intro u k b o len cap n ht h0 h1
    obtain ⟨_, d, -, hu, -, -, -, e, j, rfl, h2, h3, -⟩ := hT.types _ _ ht
    simp [Instr.indexAt, run_underlying hu, asIntOf, h0, h1, sizeOf, typeInfo, h2, h3, Addr.add_mid]
  simp only [pureOp] at he
  split at he
  · rename_i u xs k n vt hx hi ht
    split at he
    · rename_i e; subst e; cases he
      obtain ⟨b, o, cap, hv, hr⟩ := rep_elem (leaf_ok h hx) hC.1 hC.2
      rw [hv, int_val (leaf_ok h hi)]
      exact ⟨_, key ht hC.1 hC.2, hr⟩
    · cases he
  · rename_i id k n u hx hi ht
    split at he
    · rename_i u' T xs hg
      split at he
      · rename_i e; subst e; cases he
        obtain ⟨hv, p, m, c, hv2⟩ := leaf_ok h hx
        rw [hv] at hv2
        obtain ⟨hm, cells, hr, hl, hor⟩ := own_val h.own hg hv2
        subst hm
        rcases hor with ⟨_, hx0, _⟩ | ⟨g, hg', hbase, h1, h2, cur, hh, h3, h4⟩
        · subst hx0; exact absurd (idx_lt hC) (Nat.not_lt_zero _)
        · subst hg'
          rw [hv, hv2, int_val (leaf_ok h hi)]
          exact ⟨_, key ht hC.1 hC.2, g, 0, xs.length, c, hv2, rfl⟩
      · cases he
    · rename_i u' T pre xs post hg
      split at he
      · rename_i e; subst e; cases he
        obtain ⟨hv, p, m, c, hv2⟩ := leaf_ok h hx
        obtain ⟨g, cap, cells, cur, -, hρ, -⟩ := h.own _ (get?_mem hg)
        rw [hv, hρ, int_val (leaf_ok h hi)]
        exact ⟨_, key ht hC.1 hC.2, g, _, xs.length, cap, hρ, rfl⟩
      · cases he
    · rename_i u' T xs hg
      split at he
      · rename_i e; subst e; cases he
        obtain ⟨hv, p, m, c, hv2⟩ := leaf_ok h hx
        rw [hv] at hv2
        obtain ⟨hm, cells, hr, hl, hor⟩ := que_val h.own hg hv2
        subst hm
        rcases hor with ⟨_, hx0, _⟩ | ⟨g, off, hg', -⟩
        · subst hx0; exact absurd (idx_lt hC) (Nat.not_lt_zero _)
        · subst hg'
          rw [hv, hv2, int_val (leaf_ok h hi)]
          exact ⟨_, key ht hC.1 hC.2, g, _, xs.length, c, hv2, rfl⟩
      · cases he
    · cases he
  · rename_i id wd i0 k n u hx hi ht
    split at he
    · rename_i u' T xs hg
      split at he
      · rename_i e; obtain ⟨rfl, rfl⟩ := e; cases he
        obtain ⟨b, m, c, hb, him, hv⟩ := leaf_ok h hx
        obtain ⟨hm, -⟩ := own_val h.own hg hb
        subst hm
        rw [hv, int_val (leaf_ok h hi)]
        have := key (k := k) (b := b) (o := i0 * u'.w) (len := xs.length - i0) (cap := c - i0) ht hC.1 hC.2
        exact ⟨_, this, b, 0, xs.length, c, hb, by rw [Nat.zero_add, Nat.add_mul]⟩
      · cases he
    · cases he
  · rename_i id k n u hx hi ht
    split at he
    · rename_i u' T E rows idx hg
      split at he
      · rename_i e; subst e; cases he
        obtain ⟨p, m, c, vs, hb, hv⟩ := leaf_ok h hx
        obtain ⟨cells, hm⟩ := mat_val h.own hg hb
        have h1 := hm.hdr
        have hm := rowAt_len h1 rfl
        subst hm
        obtain ⟨-, ⟨h2, hn⟩ | ⟨g, cap, cur, h2, -⟩⟩ := h1
        · have := idx_lt hC; omega
        · simp at h2; obtain ⟨rfl, rfl⟩ := h2
          rw [hv, int_val (leaf_ok h hi)]
          have := key (k := k) (b := g) (o := 0) (cap := c) ht hC.1 hC.2
          rw [show (0 : Nat) + n.toNat * (Ty.slice u').w = n.toNat by simp [Ty.w]] at this
          exact ⟨_, this, g, idx.length, c, vs, hb, rfl⟩
      · cases he
    · cases he
  · rename_i id j k n u hx hi ht
    split at he
    · rename_i u' T E rows idx hg
      split at he
      · rename_i e; subst e; cases he
        obtain ⟨h0, vs, p, m, c, hb, hjv, hv⟩ := leaf_ok h hx
        obtain ⟨cells, hm⟩ := mat_val h.own hg hb
        obtain ⟨hj, hn⟩ := hC
        obtain ⟨hj1, hj2⟩ := live_some hj
        generalize rowOf rows j = xs at *
        obtain ⟨cs, hr, h5⟩ := hm.row j _ _ hj1 hjv
        have hm := rowAt_len h5 hv
        subst hm
        obtain ⟨-, ⟨h2, hn'⟩ | ⟨g, cap, cur, h2, -⟩⟩ := h5
        · have := idx_lt hn; omega
        · rw [h2, int_val (leaf_ok h hi)]
          rw [h2] at hjv
          have := key (k := k) (b := g) (o := 0) (cap := cap) ht hn.1 hn.2
          rw [Nat.zero_add] at this
          exact ⟨_, this, h0, vs, g, xs.length, cap, hb, hjv, rfl⟩
      · cases he
    · cases he
  · rename_i id off k n m u hx hi ht
    cases he
    obtain ⟨_, d, -, hu, -, -, -, e, j, d', rfl, h2, h3, h4, h5, h6⟩ := hT.types _ _ ht
    obtain ⟨b, hb, hv⟩ := leaf_ok h hx
    rw [hv, int_val (leaf_ok h hi)]
    obtain ⟨c1, c2⟩ := hC
    exact ⟨.pointer (some ⟨b, off + n.toNat * u.w, none⟩), by simp [Instr.indexAt, run_underlying hu, asIntOf, c1, c2, Instr.sureAddr, sizeOf, typeInfo, h2, h3, Addr.add_mid], b, hb, rfl⟩
  · rename_i m' t' xs k n m u hx hi ht
    split at he
    · rename_i e
      obtain ⟨rfl, rfl⟩ := e
      cases he
      obtain ⟨_, d, -, hu, -, -, -, e, j, d', rfl, h2, h3, h4, h5, h6⟩ := hT.types _ _ ht
      obtain ⟨b, o, cells, hv, hr, hl⟩ := ptr_val (leaf_ok h hx)
      obtain ⟨hlen, hr⟩ : xs.length = m' ∧ repL (fun c y => t'.rep (hot X.O ρ s.own) w c y) cells xs := hr
      rw [hv, int_val (leaf_ok h hi)]
      obtain ⟨c1, c2⟩ := hC
      obtain ⟨hlt, hn⟩ := nth_eq t' xs n c1 (by rw [hlen]; exact c2)
      refine ⟨.pointer (some ⟨b, o + n.toNat * t'.w, none⟩), by simp [Instr.indexAt, run_underlying hu, asIntOf, c1, c2, Instr.sureAddr, sizeOf, typeInfo, h2, h3, Addr.add_mid], rfl, b, o + n.toNat * t'.w, (cells.drop (n.toNat * t'.w)).take t'.w, rfl, ?_, hl.sub _ _⟩
      rw [hn]
      exact repL_get (fun c x h => t'.rep_length h) hr n.toNat hlt
    · cases he
  · cases he

theorem run_index {X : Cx} (hT : TabOK X.P X.T) {s : AState} {a : Act} {w : World} {ρ : Nat → Value} (h : Fits X s a w ρ) {t : TypeId} {x i : Operand} {C : Prop} {v : AV} (he : pureOp X.T s (.index t x i) = some (C, v)) (hC : C) :
    ∃ val, (Instr.index t (a.eval x) (a.eval i)).run X.P w = .ok val w ∧ RepV (hot X.O ρ s.own) w ρ v val := by
  simp only [pureOp] at he
  split at he
  · rename_i xs k n hx hi ht
    cases he
    obtain ⟨_, d, -, hu, -, -, -, hd⟩ := hT.types _ _ ht
    have hd : d = .string := hd
    subst hd
    rw [str_val (leaf_ok h hx), int_val (leaf_ok h hi)]
    have hlt : n.toNat < xs.length := idx_lt hC
    have hsz : (⟨xs.toArray⟩ : ByteArray).size = xs.length := by show xs.toArray.size = _; simp
    have hg : (⟨xs.toArray⟩ : ByteArray)[n.toNat]? = some (xs.getD n.toNat 0) := by
      rw [getElem?_pos _ _ (by rw [hsz]; exact hlt)]
      have : (⟨xs.toArray⟩ : ByteArray)[n.toNat]'(by rw [hsz]; exact hlt) = xs[n.toNat] := rfl
      rw [this]; simp [List.getD, hlt]
    exact ⟨.int .u8 ((xs.getD n.toNat 0).toNat : Int), by simp [Instr.index, run_underlying hu, asIntOf, hC.1, hg], rep_int (ρ := ρ)⟩
  · rename_i m u xs k n m' u' hx hi ht
    split at he
    · rename_i e
      obtain ⟨rfl, rfl⟩ := e
      cases he
      obtain ⟨_, d, -, hu, -, -, -, e, j, d', rfl, h2, h3, h4, h5, h6⟩ := hT.types _ _ ht
      obtain ⟨cs, hv, hlen, hr⟩ := arr_val (leaf_ok h hx)
      rw [hv, int_val (leaf_ok h hi)]
      have hlt : n < xs.length := by rw [hlen]; exact hC.2
      obtain ⟨hi', hn⟩ := nth_eq u xs n hC.1 hlt
      have hel := repL_get (fun c x h => u.rep_length h) hr n.toNat hi'
      have hcl := repL_length (fun c x h => u.rep_length h) hr
      have hagg : (isAgg e).run X.P w = .ok u.isAgg w := by
        unfold isAgg
        rw [Sem.run_bind, run_underlying h4 w, ← h5]
        cases d' <;> simp [TypeDesc.isRow]
      have hrun : (Instr.index t (.agg cs.toArray) (.int k n)).run X.P w = .ok (mkV u.isAgg ((cs.drop (n.toNat * u.w)).take u.w)) w := by
        cases hb : u.isAgg with
        | true =>
          rw [hb] at hagg
          simp [Instr.index, run_underlying hu, asIntOf, hC.1, hC.2, part, Sem.run_bind, hagg, sizeOf, typeInfo, h2, h3, mkV]
        | false =>
          rw [hb] at hagg
          have hw := h6 hb
          have hlt2 : n.toNat < cs.length := by rw [hcl, hw]; omega
          simp [Instr.index, run_underlying hu, asIntOf, hC.1, hC.2, part, Sem.run_bind, hagg, sizeOf, typeInfo, h2, h3, mkV, hw, hlt2]
          rw [take_one cs _ hlt2]; rfl
      refine ⟨_, hrun, ?_⟩
      have := RepL_of_cells (ρ := ρ) hel h6 (fun _ => Ty.rep_oneCell _ hel)
      rw [← hn] at this
      exact this
    · cases he
  · cases he

theorem run_slice {X : Cx} (hT : TabOK X.P X.T) {s : AState} {a : Act} {w : World} {ρ : Nat → Value} (h : Fits X s a w ρ) {t : TypeId} {x : Operand} {lo hi mx : Option Operand} {C : Prop} {v : AV} (he : pureOp X.T s (.slice t x lo hi mx) = some (C, v)) (hC : C) :
    ∃ val, (Instr.sliceAt t (a.eval x) (lo.map a.eval) (hi.map a.eval) (mx.map a.eval)).run X.P w = .ok val w ∧ RepV (hot X.O ρ s.own) w ρ v val := by
  simp only [pureOp] at he
  split at he
  · rename_i xa l hh m u hx hlo hhi hmx ht
    have hlo' := optLeaf_ok h hlo
    have hhi' := optLeaf_ok h hhi
    have hmx' := optLeaf_ok h hmx
    split at he
    · rename_i C' v' hs
      cases he
      unfold sliceLV at hs
      split at hs
      · rename_i t' xs u'
        split at hs
        · rename_i e; subst e
          obtain ⟨_, d, -, hu, -, -, -, e, j, rfl, h2, h3, -⟩ := hT.types _ _ ht
          have hrep := leaf_ok h hx
          obtain ⟨p, cap, hv, hle, hcap⟩ := slice_val hrep
          have hb : (p = none ∧ xs = [] ∧ cap = 0) ∨ ∃ b o p2, p = some ⟨b, o, p2⟩ := by
            rw [hv] at hrep
            rcases hrep.2 with ⟨he, hx0⟩ | ⟨b, o, p2, cap', cells, he, _⟩
            · simp [Value.cells] at he
              exact .inl ⟨he.1, hx0, he.2.2⟩
            · simp [Value.cells] at he
              exact .inr ⟨b, o, p2, he.1⟩
          split at hs
          · rename_i n1 n2 e1 e2
            cases hs
            obtain ⟨c0, c1, c2⟩ := hC
            cases mx with
            | some _ => exact hmx'.elim
            | none =>
              have hbd := run_bounds (P := X.P) (w := w) (isSlice := true) (cap := cap) hlo' hhi' e1 e2 c0 c1 c2 hle
              rw [hv] at hrep ⊢
              have hrun : ∀ q, (Instr.sliceAt t (.slice q xs.length cap) (lo.map a.eval) (hi.map a.eval) (Option.map a.eval none)).run X.P w = .ok (.slice (if cap = n1.toNat then q else q.map (·.add (n1.toNat * t'.w))) (n2.toNat - n1.toNat) (cap - n1.toNat)) w := by
                intro q
                simp [Instr.sliceAt, run_underlying hu, Instr.slice, hbd, sizeOf, typeInfo, h2, h3]
              refine ⟨_, hrun p, ?_⟩
              rcases hb with ⟨rfl, rfl, rfl⟩ | ⟨b, o, p2, rfl⟩
              · simp at c2
                have e0 : n2.toNat = 0 := by omega
                have e3 : n1.toNat = 0 := by omega
                rw [e0, e3]
                exact ⟨rfl, .inl ⟨by simp [Value.cells], by simp⟩⟩
              · by_cases hm : cap = n1.toNat
                · have := rep_part (l := n1.toNat) (m := cap) (n := n2.toNat) hrep (by omega) (by omega) (by omega) (Nat.le_refl _) o (by omega) p2 (.inl rfl)
                  rw [if_pos hm]; exact this
                · have := rep_part (l := n1.toNat) (m := cap) (n := n2.toNat) hrep (by omega) (by omega) (by omega) (Nat.le_refl _) (o + n1.toNat * t'.w) (fun _ => rfl) (if n1.toNat * t'.w = 0 then p2 else none) (by split <;> simp)
                  rw [if_neg hm, Option.map_some, addr_add]; exact this
          · rename_i n1 n2 k m0 e1 e2
            obtain ⟨m', rfl⟩ : ∃ m' : Int, m' = m0 := ⟨m0, rfl⟩
            split at hs
            · rename_i hv3
              cases hs
              obtain ⟨c0, c1, c2, c3⟩ := hC
              have c2' : n2 ≤ m' := c2
              have c3' : m' ≤ ((List.length xs : Nat) : Int) := c3
              clear c2 c3
              cases mx with
              | none => exact hmx'.elim
              | some mx =>
                have hmv := int_val (H := hot X.O ρ s.own) (w := w) (ρ := ρ) hmx'
                rename_i hl3
                cases hi with
                | none => exact hhi'.elim
                | some hi =>
                rcases intArg_ok e2 with ⟨e4, _⟩ | ⟨k', e4⟩
                · cases e4
                · cases e4
                  have hhv := int_val (H := hot X.O ρ s.own) (w := w) (ρ := ρ) hhi'
                  have hlv : (lo = none ∧ n1 = 0) ∨ ∃ k, lo.map a.eval = some (.int k n1) := by
                    rcases intArg_ok e1 with ⟨rfl, e5⟩ | ⟨k', rfl⟩
                    · cases lo with
                      | none => exact .inl ⟨rfl, e5⟩
                      | some lo => exact hlo'.elim
                    · cases lo with
                      | none => exact hlo'.elim
                      | some lo => exact .inr ⟨k', by simpa using int_val (H := hot X.O ρ s.own) (w := w) (ρ := ρ) hlo'⟩
                  have q1 : n2 ≤ ((m'.toNat : Nat) : Int) := by omega
                  have q2 : n1 ≤ ((n2.toNat : Nat) : Int) := by omega
                  have q3 : m' ≤ (cap : Int) := by omega
                  have hbd : (Instr.sliceBounds true xs.length cap (lo.map a.eval) (some (a.eval hi)) (some (a.eval mx))).run X.P w = .ok (n1.toNat, n2.toNat, m'.toNat) w := by
                    rw [hhv, hmv]
                    rcases hlv with ⟨rfl, rfl⟩ | ⟨k5, hl5⟩
                    · simp [Instr.sliceBounds, run_bound (P := X.P) (w := w) (show 0 ≤ m' by omega) q3, run_bound (P := X.P) (w := w) (show 0 ≤ n2 by omega) q1]
                    · rw [hl5]
                      simp [Instr.sliceBounds, run_bound (P := X.P) (w := w) (show 0 ≤ m' by omega) q3, run_bound (P := X.P) (w := w) (show 0 ≤ n2 by omega) q1, run_bound (P := X.P) (w := w) c0 q2]
                  rw [hv] at hrep ⊢
                  have hrun : ∀ q, (Instr.sliceAt t (.slice q xs.length cap) (lo.map a.eval) (Option.map a.eval (some hi)) (Option.map a.eval (some mx))).run X.P w = .ok (.slice (if m'.toNat = n1.toNat then q else q.map (·.add (n1.toNat * t'.w))) (n2.toNat - n1.toNat) (m'.toNat - n1.toNat)) w := by
                    intro q
                    simp [Instr.sliceAt, run_underlying hu, Instr.slice, hbd, sizeOf, typeInfo, h2, h3]
                  refine ⟨_, hrun p, ?_⟩
                  rcases hb with ⟨rfl, rfl, rfl⟩ | ⟨b, o, p2, rfl⟩
                  · simp at c3'
                    have e0 : n2.toNat = 0 := by omega
                    have e3 : n1.toNat = 0 := by omega
                    have e6 : m'.toNat = 0 := by omega
                    rw [e0, e3, e6]
                    exact ⟨rfl, .inl ⟨by simp [Value.cells], by simp⟩⟩
                  · by_cases hm : m'.toNat = n1.toNat
                    · have := rep_part (l := n1.toNat) (m := m'.toNat) (n := n2.toNat) hrep (by omega) (by omega) (by omega) (by omega) o (by omega) p2 (.inl rfl)
                      rw [if_pos hm]; exact this
                    · have := rep_part (l := n1.toNat) (m := m'.toNat) (n := n2.toNat) hrep (by omega) (by omega) (by omega) (by omega) (o + n1.toNat * t'.w) (fun _ => rfl) (if n1.toNat * t'.w = 0 then p2 else none) (by split <;> simp)
                      rw [if_neg hm, Option.map_some, addr_add]; exact this
            · cases hs
          · cases hs
        · cases hs
      · rename_i xs
        split at hs
        · rename_i n1 n2 e1 e2
          cases hs
          obtain ⟨c0, c1, c2⟩ := hC
          obtain ⟨_, d, -, hu, -, -, -, hd⟩ := hT.types _ _ ht
          have hd : d = .string := hd
          subst hd
          have hsz : (⟨xs.toArray⟩ : ByteArray).size = xs.length := by show xs.toArray.size = _; simp
          cases mx with
          | some _ => exact hmx'.elim
          | none =>
            have hbd := run_bounds (P := X.P) (w := w) (isSlice := false) (cap := xs.length) hlo' hhi' e1 e2 c0 c1 c2 (Nat.le_refl _)
            rw [str_val (leaf_ok h hx)]
            have hrun : (Instr.sliceAt t (.string ⟨xs.toArray⟩) (lo.map a.eval) (hi.map a.eval) (Option.map a.eval none)).run X.P w = .ok (.string ((⟨xs.toArray⟩ : ByteArray).extract n1.toNat n2.toNat)) w := by
              simp [Instr.sliceAt, run_underlying hu, Instr.slice, hsz, hbd]
            refine ⟨_, hrun, ?_⟩
            have : (⟨xs.toArray⟩ : ByteArray).extract n1.toNat n2.toNat = ⟨((xs.take n2.toNat).drop n1.toNat).toArray⟩ := by
              ext1
              rw [ByteArray.data_extract]
              apply Array.ext'
              simp [List.extract_eq_take_drop, List.drop_take]
            rw [this]
            exact rep_str (ρ := ρ)
        · cases hs
      · cases hs
    · cases he
  · cases he

end Go.Cm
end

section
/- The machine is right: pure operations, joined. -/
namespace Go.Cm
open Go.RowKit

theorem int_minmax {P : Program} {w : World} {k k' : IntKind} {a b : Int} {at_ : Array TypeId} {ty : TypeId} :
    (Builtin.min_ at_ ty #[.int k a, .int k' b]).run P w = .ok (.int k (min a b)) w ∧ (Builtin.max_ at_ ty #[.int k a, .int k' b]).run P w = .ok (.int k (max a b)) w := by
  constructor
  · have : (if b < a then b else a) = min a b := by split <;> omega
    simp [Builtin.min_, Builtin.min2, this]
  · have : (if a < b then b else a) = max a b := by split <;> omega
    simp [Builtin.max_, Builtin.max2, this]

theorem capsOf_ok {X : Cx} {s : AState} {a : Act} {w : World} {ρ : Nat → Value} (h : Fits X s a w ρ) : ∀ (xs : List Operand) {cs : List CV}, capsOf s xs = some cs → All2 (RepCV (hot X.O ρ s.own) w ρ) cs (xs.map a.eval)
  | [], cs, he => by simp [capsOf] at he; subst he; trivial
  | x :: xs, cs, he => by
    simp only [capsOf] at he
    split at he
    · rename_i t y cs' hx hr
      cases he
      exact ⟨leaf_ok h hx, capsOf_ok h xs hr⟩
    · rename_i id cs' hx hr
      cases he
      exact ⟨leaf_ok h hx, capsOf_ok h xs hr⟩
    · cases he

theorem u8_ok {P : Program} {T : Tab} (hT : TabOK P T) {t : TypeId} (h : u8Slice T t = true) : ∃ E, P.underlying t = some (.slice E) ∧ P.underlying E = some (.int .u8) := by
  unfold u8Slice at h
  split at h
  · rename_i E h1 h2
    split at h
    · rename_i h3
      obtain ⟨_, d, -, hu, -, -, -, e⟩ := hT.types _ _ h3
      have e : d = _ := e
      subst e
      exact ⟨E, hT.elems _ _ h2, hu⟩
    · cases h
  · cases h

theorem rep_ints {H : Nat → Prop} {w : World} {k : IntKind} : ∀ {xs : List Int} {cells : List Value}, repL (fun c (y : Int) => (Ty.int k).rep H w c y) cells xs → cells = xs.map (Value.int k)
  | [], _, h => h
  | x :: xs, _, ⟨c, d, e, h1, h2⟩ => by
    have h1 : c = [.int k x] := h1
    rw [e, h1, rep_ints h2]; rfl

theorem conv_bytes {P : Program} {w : World} {H : Nat → Prop} {src dst e : TypeId} {b o cap : Nat} {xs : List Int} {cells : List Value} (hs : P.underlying src = some (.slice e)) (he : P.underlying e = some (.int .u8)) (hd : P.underlying dst = some .string)
    (hc : ∀ j, j < cells.length → w.cell? ⟨b, o + j, none⟩ = cells[j]?) (hr : repL (fun c (y : Int) => (Ty.int .u8).rep H w c y) cells xs) :
    (convert src dst (.slice (some ⟨b, o, none⟩) xs.length cap)).run P w = .ok (.string ⟨(strOf xs).toArray⟩) w := by
  have hcs := rep_ints hr
  subst hcs
  rw [run_convert_bytes_string w src dst e _ _ _ hs he hd]
  have hl := run_loadCells_list (P := P) w ⟨b, o, none⟩ (xs.map (Value.int .u8)) (fun j v hj => by
    have hj' : j < (xs.map (Value.int .u8)).length := (List.getElem?_eq_some_iff.1 hj).1
    have := hc j hj'
    rw [hj] at this
    by_cases h0 : j = 0
    · subst h0; simpa [Addr.add] using this
    · simpa [Addr.add, h0] using this)
  simp only [List.length_map] at hl
  rw [run_bytesToString w _ _ _ xs hl]
  have : ∀ (l : List Int) (r : ByteArray), l.foldl (fun r n => r.push (UInt8.ofNat n.toNat)) r = ⟨r.data ++ (strOf l).toArray⟩ := by
    intro l
    induction l with
    | nil => intro r; simp [strOf]
    | cons n l ih => intro r; rw [List.foldl_cons, ih]; simp [strOf, ByteArray.push]
  rw [this]; simp

/-- An operation that makes and writes nothing: the world stands; the value is what the machine says. -/
theorem pureOp_ok {X : Cx} (hT : TabOK X.P X.T) {s : AState} {a : Act} {w : World} {ρ : Nat → Value} (h : Fits X s a w ρ) {o : Oper} {C : Prop} {v : AV} (he : pureOp X.T s o.op = some (C, v)) (hC : C) :
    ∃ val, (execOp a.eval o).run X.P w = .ok (.value val) w ∧ RepV (hot X.O ρ s.own) w ρ v val := by
  unfold execOp
  cases hop : o.op with
  | move x =>
    rw [hop] at he; simp only [pureOp] at he; dsimp only
    split at he
    · cases he
    · cases he
    · rename_i v' hv; cases he; exact ⟨_, rfl, opnd_ok h hv⟩
    · cases he
  | assign x =>
    rw [hop] at he; simp only [pureOp] at he; dsimp only
    split at he
    · cases he
    · cases he
    · rename_i v' hv; cases he; exact ⟨_, rfl, opnd_ok h hv⟩
    · cases he
  | binOp op ty x y ty' =>
    rw [hop] at he; simp only [pureOp] at he; dsimp only
    split at he
    · rename_i va vb hx hy
      split at he
      · rename_i C' v' hb
        cases he
        obtain ⟨r, h1, h2⟩ := run_binLV hT (x := x) (y := y) hb hC (leaf_ok h hx) (leaf_ok h hy)
        exact ⟨r, run_value h1, h2⟩
      · cases he
    · cases he
  | unOp op ty x =>
    rw [hop] at he; simp only [pureOp] at he; dsimp only
    split at he
    · rename_i va hx
      split at he
      · rename_i v' hb
        cases he
        obtain ⟨r, h1, h2⟩ := run_unLV (P := X.P) hb (leaf_ok h hx)
        exact ⟨r, run_value h1, h2⟩
      · cases he
    · cases he
  | convert src dst x =>
    rw [hop] at he; simp only [pureOp] at he; dsimp only
    split at he
    case h_2 => cases he
    rename_i v' hx
    unfold convLV at he
    split at he
    · rename_i k'' hd
      split at he
      · rename_i k n k' hs
        cases he
        obtain ⟨_, d1, -, hu1, -, -, -, e1⟩ := hT.types _ _ hs
        obtain ⟨_, d2, -, hu2, -, -, -, e2⟩ := hT.types _ _ hd
        have e1 : d1 = _ := e1
        have e2 : d2 = _ := e2
        subst e1; subst e2
        rw [int_val (leaf_ok h hx)]
        exact ⟨.int k'' (k''.wrap n), run_value (by simp [convert, run_underlying hu1, run_underlying hu2, Conv.intToInt]), rep_int (ρ := ρ)⟩
      · cases he
    · rename_i hd
      split at he
      · rename_i xs hs
        cases he
        obtain ⟨_, d1, -, hu1, -, -, -, e1⟩ := hT.types _ _ hs
        obtain ⟨_, d2, -, hu2, -, -, -, e2⟩ := hT.types _ _ hd
        have e1 : d1 = _ := e1
        have e2 : d2 = _ := e2
        subst e1; subst e2
        rw [str_val (leaf_ok h hx)]
        exact ⟨.string ⟨xs.toArray⟩, run_value (by simp [convert, run_underlying hu1, run_underlying hu2]), rep_str (ρ := ρ)⟩
      · split at he
        case h_2 => cases he
        rename_i l hu8 hl
        cases he
        obtain ⟨E, hu1, hE⟩ := u8_ok hT hu8
        obtain ⟨_, d2, -, hu2, -, -, -, e2⟩ := hT.types _ _ hd
        have e2 : d2 = _ := e2
        subst e2
        unfold convOwn at hl
        split at hl
        · rename_i id
          split at hl
          · rename_i T' xs hg
            cases hl
            obtain ⟨h1, ad, n, c, h2⟩ := leaf_ok h hx
            rw [h1] at h2
            obtain ⟨rfl, cells, h3, h4, h5⟩ := own_val h.own hg h2
            rw [h1, h2]
            rcases h5 with ⟨rfl, rfl, rfl⟩ | ⟨g, rfl, _, _, _, cur, h6, _, h7⟩
            · exact ⟨.string ⟨#[]⟩, run_value (by rw [run_convert_bytes_string _ _ _ _ _ _ _ hu1 hE hu2]; simp [Conv.bytesToString, Sem.run_pure]; rfl), rep_str (ρ := ρ) (l := [])⟩
            · exact ⟨.string ⟨(strOf xs).toArray⟩, run_value (conv_bytes hu1 hE hu2 (fun j hj => cell_take h6 h7 hj) h3), rep_str (ρ := ρ)⟩
          · cases hl
        · rename_i xs _
          cases hl
          obtain ⟨hag, hr⟩ := leaf_ok h hx
          have hone := cells_one (v := a.eval x) (by cases hv : a.eval x <;> rw [hv] at hag <;> first | rfl | (simp [Ty.isAgg] at hag))
          rcases hr with ⟨hv, hnil⟩ | ⟨b, o, p, cap, cells, hv, hp, hlen, hcap, hcells, hlies⟩
          · rw [hone] at hv
            have : a.eval x = .slice none 0 0 := by simpa using hv
            rw [this]
            subst hnil
            exact ⟨.string ⟨#[]⟩, run_value (by rw [run_convert_bytes_string _ _ _ _ _ _ _ hu1 hE hu2]; simp [Conv.bytesToString, Sem.run_pure]; rfl), rep_str (ρ := ρ) (l := [])⟩
          · rw [hone] at hv
            have : a.eval x = .slice (some ⟨b, o, p⟩) xs.length cap := by simpa using hv
            rw [this]
            by_cases hnil : xs = []
            · subst hnil
              exact ⟨.string ⟨#[]⟩, run_value (by rw [run_convert_bytes_string _ _ _ _ _ _ _ hu1 hE hu2]; simp [Conv.bytesToString, Sem.run_pure]; rfl), rep_str (ρ := ρ) (l := [])⟩
            obtain rfl := hp hnil
            refine ⟨.string ⟨(strOf xs).toArray⟩, run_value (conv_bytes hu1 hE hu2 ?_ hcells), rep_str (ρ := ρ)⟩
            exact hlies.2
        · cases hl
    · cases he
  | load t x =>
    rw [hop] at he
    obtain ⟨r, h1, h2⟩ := run_load hT h he hC
    exact ⟨r, run_value h1, h2⟩
  | nilCheck x =>
    rw [hop] at he; simp only [pureOp] at he; dsimp only
    split at he
    · rename_i t y hx
      cases he
      have hr := leaf_ok h hx
      obtain ⟨b, o', cells, hv, h1, h2⟩ := ptr_val hr
      rw [hv] at hr ⊢
      exact ⟨_, rfl, hr⟩
    · rename_i t y hx
      cases he
      obtain ⟨z, rfl⟩ := Option.isSome_iff_exists.1 hC
      have hr0 := leaf_ok h hx
      have hr : RepL (hot X.O ρ s.own) w ρ (.z (.ptr t) z) (a.eval x) := hr0
      obtain ⟨b, o', cells, hv, h1, h2⟩ := ptr_val hr
      rw [hv] at hr ⊢
      exact ⟨_, rfl, hr⟩
    · rename_i id off hx
      cases he
      have hr := leaf_ok h hx
      obtain ⟨b, hb, hv⟩ := hr
      simp only [hv]
      exact ⟨_, rfl, b, hb, rfl⟩
    · cases he
  | fieldAddr t x k =>
    rw [hop] at he
    obtain ⟨r, h1, h2⟩ := run_fieldAddr hT h he hC
    exact ⟨r, run_value h1, h2⟩
  | field t x k =>
    rw [hop] at he
    obtain ⟨r, h1, h2⟩ := run_field hT h he
    exact ⟨r, run_value h1, h2⟩
  | indexAddr t x i =>
    rw [hop] at he
    obtain ⟨r, h1, h2⟩ := run_indexAddr hT h he hC
    exact ⟨r, run_value h1, h2⟩
  | index t x i =>
    rw [hop] at he
    obtain ⟨r, h1, h2⟩ := run_index hT h he hC
    exact ⟨r, run_value h1, h2⟩
  | slice t x lo hi mx =>
    rw [hop] at he
    obtain ⟨r, h1, h2⟩ := run_slice hT h he hC
    exact ⟨r, run_value h1, h2⟩
  | extract x n =>
    rw [hop] at he; simp only [pureOp] at he; dsimp only
    split at he
    · rename_i l hx
      split at he
      · rename_i v' hl
        cases he
        obtain ⟨vs, hv, hvs⟩ := opnd_ok h hx
        obtain ⟨u, hu, hr⟩ := hvs.get hl
        rw [hv]
        exact ⟨u, run_value (by simp [Instr.extract, hu]), hr⟩
      · cases he
    · cases he
  | makeFunc fn first caps =>
    rw [hop] at he
    cases fn with
    | func f =>
      simp only [pureOp] at he; dsimp only
      split at he
      · rename_i cs hf hcs
        cases he
        have hf' : first = #[] := by apply Array.ext'; simpa using hf
        subst hf'
        refine ⟨_, run_value (w' := w) rfl, caps.toList.map a.eval, ?_, capsOf_ok h _ hcs⟩
        have : Array.map a.eval caps = (List.map a.eval caps.toList).toArray := by apply Array.ext'; simp
        rw [← this]; simp
      · cases he
    | _ => simp only [pureOp] at he; cases he
  | call c =>
    rw [hop] at he; simp only [pureOp] at he; dsimp only
    split at he
    · rename_i l b hcal
      obtain ⟨callee, args, argTypes⟩ := c
      simp only at hcal he
      subst hcal
      obtain ⟨args⟩ := args
      obtain ⟨argTypes⟩ := argTypes
      simp only [pureCall] at he
      cases b <;> simp only at he
      case len =>
        split at he
        · rename_i x ty _ _
          split at he
          · rename_i id j u hx ht
            split at he
            · rename_i u' T E rows idx hg
              cases he
              obtain ⟨i, d, -, hud, -, -, -, hs⟩ := hT.types _ _ ht
              obtain ⟨e, jj, rfl, -⟩ := hs
              obtain ⟨h0, vs, p, n, c, hb, hjv, hv⟩ := leaf_ok h hx
              obtain ⟨cells, hm⟩ := mat_val h.own hg hb
              obtain ⟨hj1, hj2⟩ := live_some hC
              obtain ⟨cs, hr, h5⟩ := hm.row j _ _ hj1 hjv
              have hn := rowAt_len h5 hv
              subst hn
              refine ⟨.int .i64 ((rowOf rows j).length : Int), ?_, rep_int (ρ := ρ)⟩
              simp [resolve, invoke, builtin, hv, Builtin.len_, run_underlying hud, goInt]
            · cases he
          · rename_i va u _ hx ht
            split at he
            · rename_i v' hl
              cases he
              obtain ⟨r, h1, h2⟩ := run_len (t := o.type) hT ht h.own hl (leaf_ok h hx)
              refine ⟨r, ?_, h2⟩
              simp [resolve, invoke, builtin, h1]
            · cases he
          · cases he
        · cases he
      case min =>
        split at he
        · rename_i x y
          split at he
          · rename_i k n k' m hx hy
            split at he
            · rename_i e; subst e; cases he
              have h1 := int_val (leaf_ok h hx)
              have h2 := int_val (leaf_ok h hy)
              refine ⟨.int k (min n m), ?_, rep_int (ρ := ρ)⟩
              simp [resolve, invoke, builtin, h1, h2, (int_minmax (P := X.P) (w := w) (k := k) (k' := k) (a := n) (b := m)).1]
            · cases he
          · cases he
        · cases he
      case max =>
        split at he
        · rename_i x y
          split at he
          · rename_i k n k' m hx hy
            split at he
            · rename_i e; subst e; cases he
              have h1 := int_val (leaf_ok h hx)
              have h2 := int_val (leaf_ok h hy)
              refine ⟨.int k (max n m), ?_, rep_int (ρ := ρ)⟩
              simp [resolve, invoke, builtin, h1, h2, (int_minmax (P := X.P) (w := w) (k := k) (k' := k) (a := n) (b := m)).2]
            · cases he
          · cases he
        · cases he
      all_goals cases he
    · cases he
  | _ => rw [hop] at he; simp only [pureOp] at he; cases he

end Go.Cm
end

section
/- The machine is right: how the state's facts move from world to world. -/
namespace Go.Cm
open Go.RowKit

theorem Ty.rep_move {H H' : Nat → Prop} {w w' : World} (hh : ∀ b, b < w.heap.size → H' b → H b) (hs : Stays H w w') {t : Ty} {cs : List Value} {x : t.D} (h : t.rep H w cs x) : t.rep H' w' cs x := by
  have h1 : t.rep (fun b => H b ∨ H' b) w cs x := t.rep_hot (fun b hb h => h.elim id (hh b hb)) h
  have h2 : t.rep (fun b => H b ∨ H' b) w' cs x := t.rep_stays (fun b hb hlt => hs b (fun h => hb (.inl h)) hlt) h1
  exact t.rep_hot (fun _ _ h => .inr h) h2

theorem repL_move {H H' : Nat → Prop} {w w' : World} (hh : ∀ b, b < w.heap.size → H' b → H b) (hs : Stays H w w') {t : Ty} {xs : List t.D} {cs : List Value} (h : repL (fun c x => t.rep H w c x) cs xs) : repL (fun c x => t.rep H' w' c x) cs xs :=
  repL_map (fun _ _ _ h => Ty.rep_move hh hs h) h

theorem RepL_move {H H' : Nat → Prop} {w w' : World} {ρ ρ' : Nat → Value} (hh : ∀ b, b < w.heap.size → H' b → H b) (hs : Stays H w w') {x : LV} (hρ : ∀ id, x.isOf id = true → ρ' id = ρ id) {v : Value} (h : RepL H w ρ x v) : RepL H' w' ρ' x v := by
  cases x with
  | z t y => exact ⟨h.1, Ty.rep_move hh hs h.2⟩
  | ownS id => rw [RepL, hρ id (by simp [LV.isOf])]; exact h
  | ownP id off => rw [RepL, hρ id (by simp [LV.isOf])]; exact h
  | ownE id wd i => rw [RepL, hρ id (by simp [LV.isOf])]; exact h
  | ownW id wd i => rw [RepL, hρ id (by simp [LV.isOf])]; exact h
  | ownM id => rw [RepL, hρ id (by simp [LV.isOf])]; exact h
  | ownA id i => rw [RepL, hρ id (by simp [LV.isOf])]; exact h
  | ownR id j => rw [RepL, hρ id (by simp [LV.isOf])]; exact h
  | ownB id j wd i => rw [RepL, hρ id (by simp [LV.isOf])]; exact h
  | fn f caps =>
    obtain ⟨vs, hv, h⟩ := h
    refine ⟨vs, hv, ?_⟩
    clear hv
    induction caps generalizing vs with
    | nil => cases vs with
      | nil => trivial
      | cons _ _ => exact h.elim
    | cons c caps ih => cases vs with
      | nil => exact h.elim
      | cons u vs =>
        refine ⟨?_, ih (fun id hi => hρ id (by
          simp only [LV.isOf, List.any_cons, Bool.or_eq_true] at hi ⊢
          exact .inr hi)) vs h.2⟩
        have h1 := h.1
        cases c with
        | z t y => exact ⟨h1.1, Ty.rep_move hh hs h1.2⟩
        | p id => rw [RepCV, hρ id (by simp [LV.isOf, CV.isOf])]; exact h1
  | val u => exact h
  | junk => trivial

theorem RepL_kill {H H' : Nat → Prop} {w w' : World} {ρ ρ' : Nat → Value} {id : Nat} (hh : ∀ b, b < w.heap.size → H' b → H b) (hs : Stays H w w') (hρ : ∀ i, i ≠ id → ρ' i = ρ i) {x : LV} {v : Value} (h : RepL H w ρ x v) : RepL H' w' ρ' (x.kill id) v := by
  unfold LV.kill
  split
  · trivial
  · rename_i hno
    refine RepL_move hh hs (fun i hi => hρ i ?_) h
    rintro rfl
    exact hno hi

theorem RepC_map {H H' : Nat → Prop} {w w' : World} {ρ ρ' : Nat → Value} {f : LV → LV} (hf : ∀ x v, RepL H w ρ x v → RepL H' w' ρ' (f x) v) {x : LV} {v : Value} (h : RepC H w ρ x v) : RepC H' w' ρ' (f x) v := ⟨hf _ _ h.1, h.2⟩

theorem All2.map_left {α β : Type} {R R' : α → β → Prop} {f : α → α} (hf : ∀ a b, R a b → R' (f a) b) : ∀ {l1 : List α} {bs : List β}, All2 R l1 bs → All2 R' (l1.map f) bs
  | [], [], _ => trivial
  | _ :: _, _ :: _, h => ⟨hf _ _ h.1, h.2.map_left hf⟩
  | [], _ :: _, h => h.elim
  | _ :: _, [], h => h.elim

theorem RepV_map {H H' : Nat → Prop} {w w' : World} {ρ ρ' : Nat → Value} {f : LV → LV} (hf : ∀ x v, RepL H w ρ x v → RepL H' w' ρ' (f x) v) {x : AV} {v : Value} (h : RepV H w ρ x v) : RepV H' w' ρ' (x.map f) v := by
  cases x with
  | l x => exact hf _ _ h
  | agg cs => obtain ⟨vs, e, h⟩ := h; exact ⟨vs, e, h.map_left (fun _ _ h => RepC_map hf h)⟩
  | tup xs => obtain ⟨vs, e, h⟩ := h; exact ⟨vs, e, h.map_left hf⟩
  | g φ x => exact ⟨fun hφ => hf _ _ (h.1 hφ), h.2⟩
  | gt φ xs => exact ⟨fun hφ => by obtain ⟨vs, e, h⟩ := h.1 hφ; exact ⟨vs, e, h.map_left hf⟩, h.2⟩

theorem mem_mapEnv {f : LV → LV} : ∀ {l : List (Nat × AV)} {e : Nat × AV}, e ∈ mapEnv f l → ∃ v, (e.1, v) ∈ l ∧ e.2 = v.map f
  | (k, v) :: r, e, h => by
    simp only [mapEnv, List.mem_cons] at h
    rcases h with rfl | h
    · exact ⟨v, by simp, rfl⟩
    · obtain ⟨u, h1, h2⟩ := mem_mapEnv h
      exact ⟨u, by simp [h1], h2⟩

theorem mem_mapOwn {f : LV → LV} : ∀ {l : List (Nat × OObj)} {e : Nat × OObj}, e ∈ mapOwn f l → ∃ v, (e.1, v) ∈ l ∧ e.2 = v.map f
  | (k, v) :: r, e, h => by
    simp only [mapOwn, List.mem_cons] at h
    rcases h with rfl | h
    · exact ⟨v, by simp, rfl⟩
    · obtain ⟨u, h1, h2⟩ := mem_mapOwn h
      exact ⟨u, by simp [h1], h2⟩

theorem pairwise_mapOwn {f : LV → LV} (R : Nat → Nat → Prop) : ∀ {l : List (Nat × OObj)}, l.Pairwise (fun p q => R p.1 q.1) → (mapOwn f l).Pairwise (fun p q => R p.1 q.1)
  | [], _ => .nil
  | (k, v) :: r, h => by
    simp only [mapOwn]
    rw [List.pairwise_cons] at h ⊢
    exact ⟨fun q hq => by obtain ⟨u, h1, _⟩ := mem_mapOwn hq; exact h.1 (q.1, u) h1, pairwise_mapOwn R h.2⟩

theorem pairwise_del (R : Nat → Nat → Prop) {α : Type} : ∀ {l : List (Nat × α)} {n : Nat}, l.Pairwise (fun p q => R p.1 q.1) → (del l n).Pairwise (fun p q => R p.1 q.1)
  | [], _, _ => .nil
  | (k, v) :: r, n, h => by
    rw [List.pairwise_cons] at h
    simp only [del]
    split
    · exact pairwise_del R h.2
    · rw [List.pairwise_cons]
      exact ⟨fun q hq => h.1 _ (mem_del.1 hq).1, pairwise_del R h.2⟩

theorem rowAt_blk {M : Nat → Prop} {w : World} {e : TypeId} {size n : Nat} {v : Value} {xs : List Value} (h : rowAt M w e size v n xs) {b : Nat} (hb : blk v = some b) : M b ∧ ∃ cur, w.heap[b]? = some (.cells cur e (0, 0)) := by
  obtain ⟨_, ⟨h, _⟩ | ⟨g, cap, cur, h, hM, hh, _⟩⟩ := h
  · rw [h] at hb; simp [blk] at hb
  · rw [h] at hb; simp [blk] at hb; subst hb; exact ⟨hM, cur, hh⟩

theorem queAt_blk {M : Nat → Prop} {w : World} {e : TypeId} {size n : Nat} {v : Value} {xs : List Value} (h : queAt M w e size v n xs) {b : Nat} (hb : Blk v b) : M b ∧ ∃ cur, w.heap[b]? = some (.cells cur e (0, 0)) := by
  obtain ⟨_, ⟨h, _⟩ | ⟨g, off, cap, cur, h, hM, hh, _⟩⟩ := h
  · rw [h] at hb; simp [Blk] at hb
  · rw [h] at hb; simp [Blk] at hb; subst hb; exact ⟨hM, cur, hh⟩

theorem queAt_keep {M M' : Nat → Prop} {w w' : World} {e : TypeId} {size n : Nat} {v : Value} {xs : List Value} (h : queAt M w e size v n xs) (hb : ∀ b, Blk v b → M' b ∧ w'.heap[b]? = w.heap[b]?) : queAt M' w' e size v n xs := by
  obtain ⟨hl, h | ⟨g, off, cap, cur, h, hM, hh, h1⟩⟩ := h
  · exact ⟨hl, .inl h⟩
  · have := hb g (by rw [h]; rfl)
    exact ⟨hl, .inr ⟨g, off, cap, cur, h, this.1, by rw [this.2]; exact hh, h1⟩⟩

theorem rowAt_keep {M : Nat → Prop} {w w' : World} {e : TypeId} {size n : Nat} {v : Value} {xs : List Value} (h : rowAt M w e size v n xs) (hb : ∀ b, blk v = some b → w'.heap[b]? = w.heap[b]?) : rowAt M w' e size v n xs := by
  obtain ⟨hl, h | ⟨g, cap, cur, h, hM, hh, h1⟩⟩ := h
  · exact ⟨hl, .inl h⟩
  · exact ⟨hl, .inr ⟨g, cap, cur, h, hM, by rw [hb g (by rw [h]; rfl)]; exact hh, h1⟩⟩

theorem rowAt_M {M M' : Nat → Prop} {w : World} {e : TypeId} {size n : Nat} {v : Value} {xs : List Value} (h : rowAt M w e size v n xs) (hb : ∀ b, blk v = some b → M' b) : rowAt M' w e size v n xs := by
  obtain ⟨hl, h | ⟨g, cap, cur, h, hM, h1⟩⟩ := h
  · exact ⟨hl, .inl h⟩
  · exact ⟨hl, .inr ⟨g, cap, cur, h, hb g (by rw [h]; rfl), h1⟩⟩

/-- The blocks of a table of rows. -/
theorem OwnOK.matBlk {H : Nat → Prop} {w : World} {ρ : Nat → Value} {M : Nat → Prop} {id : Nat} {t : Ty} {T E : TypeId} {rows : List (Option (List t.D))} {idx : List (Option Nat)} (h : OwnOK H w ρ M (id, .mat t T E rows idx)) {b : Nat} (hb : Blk (ρ id) b) : M b ∧ ∃ o : Obj, w.heap[b]? = some o ∧ o.isCells = true := by
  obtain ⟨h0, vs, cells, h1, h2⟩ := h
  rw [h1] at hb
  obtain ⟨u, hu, hub⟩ := hb
  rcases List.mem_cons.1 hu with rfl | hu
  · obtain ⟨hM, cur, hc⟩ := rowAt_blk h2.hdr hub
    exact ⟨hM, _, hc, rfl⟩
  · exact ((h2.shape u hu).2 b hub).2

/-- A table of rows in a world where its blocks are as they were. -/
theorem MatOK.move {α : Type} {R R' : List Value → α → Prop} {size : Nat} {M M' : Nat → Prop} {w w' : World} {T E : TypeId} {rows : List (Option (List α))} {idx : List (Option Nat)} {h : Value} {vs cells : List Value} (hm : MatOK R size M w T E rows idx h vs cells)
    (hR : ∀ c x, R c x → R' c x) (hb : ∀ u ∈ h :: vs, ∀ b, blk u = some b → M' b ∧ w'.heap[b]? = w.heap[b]?) : MatOK R' size M' w' T E rows idx h vs cells := by
  refine ⟨hm.len, rowAt_keep (rowAt_M hm.hdr fun b e => (hb h (List.mem_cons_self ..) b e).1) (fun b e => (hb h (List.mem_cons_self ..) b e).2), hm.one, hm.at_, fun v hv => ⟨(hm.shape v hv).1, fun b e => ⟨((hm.shape v hv).2 b e).1, ?_⟩⟩, fun j xs v hx hv => ?_, hm.apart⟩
  · obtain ⟨q1, q2⟩ := hb v (List.mem_cons_of_mem _ hv) b e
    rw [q2]
    exact ⟨q1, ((hm.shape v hv).2 b e).2.2⟩
  · obtain ⟨cs, h8, h9⟩ := hm.row j xs v hx hv
    have hq := hb v (List.mem_cons_of_mem _ (List.mem_of_getElem? hv))
    exact ⟨cs, repL_map (fun c x _ h => hR c x h) h8, rowAt_keep (rowAt_M h9 fun b e => (hq b e).1) (fun b e => (hq b e).2)⟩

theorem MatOK.Mof {α : Type} {R : List Value → α → Prop} {size : Nat} {M : Nat → Prop} {w : World} {T E : TypeId} {rows : List (Option (List α))} {idx : List (Option Nat)} {h : Value} {vs cells : List Value} (hm : MatOK R size M w T E rows idx h vs cells) {u : Value} (hu : u ∈ h :: vs) {b : Nat} (hb : blk u = some b) : M b ∧ ∃ o : Obj, w.heap[b]? = some o ∧ o.isCells = true := by
  rcases List.mem_cons.1 hu with rfl | hu
  · obtain ⟨hM, cur, hc⟩ := rowAt_blk hm.hdr hb
    exact ⟨hM, _, hc, rfl⟩
  · exact ((hm.shape u hu).2 b hb).2

/-- The block of an owned thing is there. -/
theorem OwnOK.lt {H : Nat → Prop} {w : World} {ρ : Nat → Value} {M : Nat → Prop} {p : Nat × OObj} (h : OwnOK H w ρ M p) {b : Nat} (hb : Blk (ρ p.1) b) : M b ∧ b < w.heap.size := by
  have key : ∀ {g : Nat} {o : Obj}, w.heap[g]? = some o → g < w.heap.size := fun h => (Array.getElem?_eq_some_iff.1 h).1
  obtain ⟨id, obj⟩ := p
  cases obj with
  | box T cs =>
    obtain ⟨g, vs, h1, h2, h3, h4⟩ := h
    simp only at hb
    rw [h1] at hb; simp [Blk] at hb; subst hb
    exact ⟨h2, key h3⟩
  | arr t T xs =>
    obtain ⟨cells, h1, h2, h3⟩ := h
    simp only at hb
    rcases h3 with ⟨h3, _⟩ | ⟨g, cap, cur, h3, h4, h5, _⟩
    · rw [h3] at hb; simp [Blk] at hb
    · rw [h3] at hb; simp [Blk] at hb; subst hb
      exact ⟨h4, key h5⟩
  | win t T pre xs post =>
    obtain ⟨g, cap, cells, cur, _, h3, h4, h5, _⟩ := h
    simp only at hb
    rw [h3] at hb; simp [Blk] at hb; subst hb
    exact ⟨h4, key h5⟩
  | mat t T E rows idx =>
    obtain ⟨h1, o, h2, -⟩ := h.matBlk hb
    exact ⟨h1, key h2⟩
  | que t T xs =>
    obtain ⟨cells, h1, h2⟩ := h
    obtain ⟨h3, cur, h4⟩ := queAt_blk h2 hb
    exact ⟨h3, key h4⟩

/-- The block of an owned thing holds cells. -/
theorem OwnOK.cells {H : Nat → Prop} {w : World} {ρ : Nat → Value} {M : Nat → Prop} {p : Nat × OObj} (h : OwnOK H w ρ M p) {b : Nat} (hb : Blk (ρ p.1) b) : ∃ o : Obj, w.heap[b]? = some o ∧ o.isCells = true := by
  obtain ⟨id, obj⟩ := p
  cases obj with
  | box T cs =>
    obtain ⟨g, vs, h1, h2, h3, h4⟩ := h
    simp only at hb
    rw [h1] at hb; simp [Blk] at hb; subst hb
    exact ⟨_, h3, rfl⟩
  | arr t T xs =>
    obtain ⟨cells, h1, h2, h3⟩ := h
    simp only at hb
    rcases h3 with ⟨h3, _⟩ | ⟨g, cap, cur, h3, h4, h5, _⟩
    · rw [h3] at hb; simp [Blk] at hb
    · rw [h3] at hb; simp [Blk] at hb; subst hb
      exact ⟨_, h5, rfl⟩
  | win t T pre xs post =>
    obtain ⟨g, cap, cells, cur, _, h3, h4, h5, _⟩ := h
    simp only at hb
    rw [h3] at hb; simp [Blk] at hb; subst hb
    exact ⟨_, h5, rfl⟩
  | mat t T E rows idx =>
    exact (h.matBlk hb).2
  | que t T xs =>
    obtain ⟨cells, h1, h2⟩ := h
    obtain ⟨h3, cur, h4⟩ := queAt_blk h2 hb
    exact ⟨_, h4, rfl⟩

/-- An owned thing in a world where its block is as it was. -/
theorem OwnOK.move {H H' : Nat → Prop} {w w' : World} {ρ ρ' : Nat → Value} {M : Nat → Prop} {p : Nat × OObj} {f : LV → LV} (h : OwnOK H w ρ M p) (hh : ∀ b, b < w.heap.size → H' b → H b) (hs : Stays H w w')
    (hf : ∀ x v, RepL H w ρ x v → RepL H' w' ρ' (f x) v) (hρ : ρ' p.1 = ρ p.1) (hb : ∀ b, Blk (ρ p.1) b → w'.heap[b]? = w.heap[b]?) : OwnOK H' w' ρ' M (p.1, p.2.map f) := by
  obtain ⟨id, obj⟩ := p
  cases obj with
  | box T cs =>
    obtain ⟨g, vs, h1, h2, h3, h4⟩ := h
    exact ⟨g, vs, by rw [hρ]; exact h1, h2, by rw [hb g (by rw [h1]; rfl)]; exact h3, h4.map_left (fun _ _ h => RepC_map hf h)⟩
  | arr t T xs =>
    obtain ⟨cells, h1, h2, h3⟩ := h
    refine ⟨cells, repL_move hh hs h1, h2, ?_⟩
    rw [hρ]
    rcases h3 with h3 | ⟨g, cap, cur, h3, h4, h5, h6⟩
    · exact .inl h3
    · exact .inr ⟨g, cap, cur, h3, h4, by rw [hb g (by rw [h3]; rfl)]; exact h5, h6⟩
  | win t T pre xs post =>
    obtain ⟨g, cap, cells, cur, hr, h3, h4, h5, h6⟩ := h
    exact ⟨g, cap, cells, cur, repL_move hh hs hr, by rw [hρ]; exact h3, h4, by rw [hb g (by rw [h3]; rfl)]; exact h5, h6⟩
  | mat t T E rows idx =>
    obtain ⟨h0, vs, cells, h1, h2⟩ := h
    refine ⟨h0, vs, cells, by rw [hρ]; exact h1, h2.move (fun c x h => Ty.rep_move hh hs h) fun u hu b e => ⟨(h2.Mof hu e).1, hb b ?_⟩⟩
    show Blk (ρ id) b
    rw [h1]; exact ⟨u, hu, e⟩
  | que t T xs =>
    have hlt : ∀ b, Blk (ρ id) b → M b := fun b hb => (OwnOK.lt h hb).1
    obtain ⟨cells, h1, h2⟩ := h
    refine ⟨cells, repL_move hh hs h1, ?_⟩
    rw [hρ]
    exact queAt_keep h2 fun b e => ⟨hlt b e, hb b e⟩

theorem OObj.map_id (o : OObj) : o.map id = o := by cases o <;> simp [OObj.map]

theorem OwnOK.move_id {H H' : Nat → Prop} {w w' : World} {ρ : Nat → Value} {M : Nat → Prop} {p : Nat × OObj} (h : OwnOK H w ρ M p) (hh : ∀ b, b < w.heap.size → H' b → H b) (hs : Stays H w w')
    (hb : ∀ b, Blk (ρ p.1) b → w'.heap[b]? = w.heap[b]?) : OwnOK H' w' ρ M p := by
  have := h.move (f := id) (ρ' := ρ) hh hs (fun x v h => RepL_move hh hs (fun _ _ => rfl) h) rfl hb
  rwa [OObj.map_id] at this

/-- The slot's value. -/
theorem Act.getD_put {a : Act} {d t : Nat} {v : Value} (hd : d < a.tmps.size) : (a.put (some d) v).tmps.getD t undef = if t = d then v else a.tmps.getD t undef := by
  simp only [Act.put, Array.getD_eq_getD_getElem?]
  rw [Array.getElem?_setIfInBounds]
  by_cases h : t = d
  · subst h; simp [hd]
  · rw [if_neg h, if_neg (fun e => h e.symm)]

theorem Act.size_put {a : Act} {d : Option Nat} {v : Value} : (a.put d v).tmps.size = a.tmps.size := by cases d <;> simp [Act.put]
theorem Act.defers_put {a : Act} {d : Option Nat} {v : Value} : (a.put d v).defers = a.defers := by cases d <;> rfl

theorem Fits.put {X : Cx} {s : AState} {a : Act} {w : World} {ρ : Nat → Value} (h : Fits X s a w ρ) {d : Nat} (hd : d < a.tmps.size) {v : AV} {val : Value} (hv : RepV (hot X.O ρ s.own) w ρ v val) : Fits X (s.put d v) (a.put (some d) val) w ρ := by
  refine ⟨fun e he => ?_, h.own, h.io, h.apart⟩
  simp only [AState.put, List.mem_cons, mem_del] at he
  rw [Act.getD_put hd]
  rcases he with rfl | ⟨he, hne⟩
  · simp only [if_true]; exact hv
  · rw [if_neg hne]; exact h.env e he

theorem Act.getD_put_ne {a : Act} {d t : Nat} {v : Value} (h : t ≠ d) : (a.put (some d) v).tmps.getD t undef = a.tmps.getD t undef := by
  simp only [Act.put, Array.getD_eq_getD_getElem?]
  rw [Array.getElem?_setIfInBounds, if_neg (fun e => h e.symm)]

theorem kept_put {X : Cx} {a : Act} {d : Nat} {v : Value} (hd : X.T.ok d = true) (h : ∀ t ∈ X.T.keep, a.tmps.getD t undef = X.tm t) : ∀ t ∈ X.T.keep, (a.put (some d) v).tmps.getD t undef = X.tm t := by
  intro t ht
  rw [Act.getD_put_ne]
  · exact h t ht
  · rintro rfl
    simp only [Tab.ok, Bool.and_eq_true, Bool.not_eq_true', List.contains_eq_mem, decide_eq_false_iff_not] at hd
    exact hd.2 ht

/-- The next state, one slot written. -/
theorem St.next {X : Cx} {s s' : AState} {a : Act} {w w' : World} (h : St X s a w) {d : Nat} {v : Value} {ρ : Nat → Value} (hd : X.T.ok d = true) (hk : KeepsOthers w w') (hb : Bel X.M X.w0 w') (hf : Fits X s' (a.put (some d) v) w' ρ) : St X s' (a.put (some d) v) w' :=
  ⟨by rw [Act.defers_put]; exact h.marks.keep hk, kept_put hd h.kept, by rw [Act.size_put]; exact h.size, hb, h.others, h.small, ρ, hf⟩

/-- The next state, no slot written. -/
theorem St.next0 {X : Cx} {s s' : AState} {a : Act} {w w' : World} (h : St X s a w) {ρ : Nat → Value} (hk : KeepsOthers w w') (hb : Bel X.M X.w0 w') (hf : Fits X s' a w' ρ) : St X s' a w' :=
  ⟨h.marks.keep hk, h.kept, h.size, hb, h.others, h.small, ρ, hf⟩

theorem St.put {X : Cx} {s : AState} {a : Act} {w : World} (h : St X s a w) {ρ : Nat → Value} (hf : Fits X s a w ρ) {d : Nat} (hd : X.T.ok d = true) {v : AV} {val : Value} (hv : RepV (hot X.O ρ s.own) w ρ v val) : St X (s.put d v) (a.put (some d) val) w :=
  h.next hd (KeepsOthers.refl _) h.below (hf.put (by rw [h.size]; exact Tab.ok_lt hd) hv)

/-- The frame of a state is kept where nothing that it tells has turned but by 'f'. -/
theorem Fits.env_map {X : Cx} {s : AState} {a : Act} {w w' : World} {ρ ρ' : Nat → Value} (h : Fits X s a w ρ) {f : LV → LV} {own' : List (Nat × OObj)} (hf : ∀ x v, RepL (hot X.O ρ s.own) w ρ x v → RepL (hot X.O ρ' own') w' ρ' (f x) v)
    (hown : ∀ p ∈ own', OwnOK (hot X.O ρ' own') w' ρ' X.M p) (hio : ∀ p ∈ own', ioB ≤ p.1 → X.T.free.contains p.1 = false → ρ' p.1 = X.ρ0 p.1) (hap : own'.Pairwise fun p q => p.1 ≠ q.1 ∧ ∀ b, Blk (ρ' p.1) b → ¬ Blk (ρ' q.1) b) : Fits X { env := mapEnv f s.env, own := own' } a w' ρ' := by
  refine ⟨fun e he => ?_, hown, hio, hap⟩
  obtain ⟨v, h1, h2⟩ := mem_mapEnv he
  rw [h2]
  exact RepV_map hf (h.env _ h1)

def setρ (ρ : Nat → Value) (id : Nat) (v : Value) (i : Nat) : Value := if i = id then v else ρ i
theorem setρ_same (ρ : Nat → Value) (id : Nat) (v : Value) : setρ ρ id v id = v := by simp [setρ]
theorem setρ_ne (ρ : Nat → Value) {id i : Nat} (v : Value) (h : i ≠ id) : setρ ρ id v i = ρ i := by simp [setρ, h]

theorem hot_blk {O : Nat → Prop} {ρ : Nat → Value} {own : List (Nat × OObj)} {p : Nat × OObj} {b : Nat} (hp : p ∈ own) (hb : Blk (ρ p.1) b) : hot O ρ own b := .inr ⟨p, hp, hb⟩

/-- **A new thing of the call's own.** -/
theorem Fits.fresh' {X : Cx} {s : AState} {a : Act} {w w' : World} {d : Nat} {obj : OObj} {val : Value} {ρ : Nat → Value} (hf : Fits X s a w ρ) (hdB : d < ioB)
    (hkeep : ∀ k, k < w.heap.size → w'.heap[k]? = w.heap[k]?) (hval : ∀ b, Blk val b → w.heap.size ≤ b)
    (hobj : ∀ H' ρ', (∀ b, b < w.heap.size → H' b → hot X.O ρ s.own b) → Stays (hot X.O ρ s.own) w w' → (∀ i, i ≠ d → ρ' i = ρ i) → ρ' d = val → OwnOK H' w' ρ' X.M (d, obj)) :
    ∃ ρ', ρ' d = val ∧ Fits X { env := mapEnv (LV.kill d) s.env, own := (d, obj) :: mapOwn (LV.kill d) (del s.own d) } a w' ρ' := by
  have hlt := fun p hp b hb => ((hf.own p hp).lt (b := b) hb).2
  have hs : Stays (hot X.O ρ s.own) w w' := fun b _ hb => hkeep b (cells_lt hb)
  have hh : ∀ b, b < w.heap.size → hot X.O (setρ ρ d val) ((d, obj) :: mapOwn (LV.kill d) (del s.own d)) b → hot X.O ρ s.own b := by
    intro b hb h
    rcases h with h | ⟨p, hp, hp2⟩
    · exact .inl h
    · rcases List.mem_cons.1 hp with rfl | hp
      · simp only [setρ_same] at hp2
        have := hval b hp2; omega
      · obtain ⟨u, h1, _⟩ := mem_mapOwn hp
        have h2 := mem_del.1 h1
        rw [setρ_ne _ _ h2.2] at hp2
        exact hot_blk h2.1 hp2
  have hρ : ∀ i, i ≠ d → setρ ρ d val i = ρ i := fun i hi => setρ_ne _ _ hi
  refine ⟨setρ ρ d val, setρ_same _ _ _, hf.env_map (fun x v hx => RepL_kill hh hs hρ hx) ?_ ?_ ?_⟩
  · intro p hp
    rcases List.mem_cons.1 hp with rfl | hp
    · exact hobj _ _ hh hs hρ (setρ_same _ _ _)
    · obtain ⟨u, h1, h2⟩ := mem_mapOwn hp
      have h3 := mem_del.1 h1
      have := (hf.own _ h3.1).move (f := LV.kill d) (ρ' := setρ ρ d val) hh hs (fun x v hx => RepL_kill hh hs hρ hx) (hρ _ h3.2) (fun b hb => hkeep b (hlt _ h3.1 b hb))
      rw [← h2] at this
      exact this
  · intro p hp hB hF
    rcases List.mem_cons.1 hp with rfl | hp
    · exact absurd hB (Nat.not_le.2 hdB)
    · obtain ⟨u, h1, _⟩ := mem_mapOwn hp
      have h3 := mem_del.1 h1
      rw [hρ _ h3.2]
      exact hf.io _ h3.1 hB hF
  · rw [List.pairwise_cons]
    constructor
    · intro q hq
      obtain ⟨u, h1, _⟩ := mem_mapOwn hq
      have h3 := mem_del.1 h1
      refine ⟨fun e => h3.2 e.symm, fun b hb hq2 => ?_⟩
      rw [setρ_ne _ _ h3.2] at hq2
      simp only [setρ_same] at hb
      have h4 := hval b hb
      have := hlt _ h3.1 b hq2
      omega
    · have hap := pairwise_mapOwn (f := LV.kill d) (fun i j => i ≠ j ∧ ∀ b, Blk (ρ i) b → ¬ Blk (ρ j) b) (pairwise_del (fun i j => i ≠ j ∧ ∀ b, Blk (ρ i) b → ¬ Blk (ρ j) b) (n := d) hf.apart)
      refine hap.imp_of_mem fun {p q} hp hq hpq => ?_
      obtain ⟨_, h1, _⟩ := mem_mapOwn hp
      obtain ⟨_, h2, _⟩ := mem_mapOwn hq
      rw [setρ_ne _ _ (mem_del.1 h1).2, setρ_ne _ _ (mem_del.1 h2).2]
      exact hpq

theorem Fits.fresh {X : Cx} {s : AState} {a : Act} {w w' : World} {d : Nat} {obj : OObj} {val : Value} {ρ : Nat → Value} (hf : Fits X s a w ρ) (hdB : d < ioB)
    (hkeep : ∀ k, k < w.heap.size → w'.heap[k]? = w.heap[k]?) (hval : ∀ b, Blk val b → b = w.heap.size)
    (hobj : ∀ H' ρ', (∀ b, b < w.heap.size → H' b → hot X.O ρ s.own b) → Stays (hot X.O ρ s.own) w w' → (∀ i, i ≠ d → ρ' i = ρ i) → ρ' d = val → OwnOK H' w' ρ' X.M (d, obj)) :
    ∃ ρ', ρ' d = val ∧ Fits X { env := mapEnv (LV.kill d) s.env, own := (d, obj) :: mapOwn (LV.kill d) (del s.own d) } a w' ρ' :=
  hf.fresh' hdB hkeep (fun b hb => Nat.le_of_eq (hval b hb).symm) hobj

end Go.Cm
end

section
/- The machine is right: arrays are frozen, written and appended to. -/
namespace Go.Cm
open Go.RowKit

theorem Fits.two {X : Cx} {s : AState} {a : Act} {w : World} {ρ : Nat → Value} (h : Fits X s a w ρ) {p q : Nat × OObj} (hp : p ∈ s.own) (hq : q ∈ s.own) (hne : p.1 ≠ q.1) {b : Nat} (hb : Blk (ρ p.1) b) : ¬ Blk (ρ q.1) b := by
  have key : ∀ {l : List (Nat × OObj)}, l.Pairwise (fun p q => p.1 ≠ q.1 ∧ ∀ b, Blk (ρ p.1) b → ¬ Blk (ρ q.1) b) → p ∈ l → q ∈ l → ¬ Blk (ρ q.1) b := by
    intro l
    induction l with
    | nil => intro _ h _; cases h
    | cons x l ih =>
      intro h1 h2 h3
      rw [List.pairwise_cons] at h1
      rcases List.mem_cons.1 h2 with e2 | h4 <;> rcases List.mem_cons.1 h3 with e3 | h5
      · exact absurd (by rw [e2, e3]) hne
      · rw [e2] at hb; exact (h1.1 _ h5).2 b hb
      · intro e; rw [e3] at e; exact (h1.1 _ h4).2 b e hb
      · exact ih h1.2 h4 h5
  exact key h.apart hp hq

theorem hot_sub {O : Nat → Prop} {ρ : Nat → Value} {own own' : List (Nat × OObj)} (h : ∀ p ∈ own', ∃ o, (p.1, o) ∈ own) {b : Nat} (hb : hot O ρ own' b) : hot O ρ own b := by
  rcases hb with hb | ⟨p, hp, hb⟩
  · exact .inl hb
  · obtain ⟨o, ho⟩ := h p hp
    exact .inr ⟨_, ho, hb⟩

/-- **From here on nobody writes the array.** -/
theorem Fits.freeze {X : Cx} {s : AState} {a : Act} {w : World} {ρ : Nat → Value} (h : Fits X s a w ρ) (hO : ∀ b, X.O b → ¬ X.M b) (id : Nat) : Fits X (s.freeze id) a w ρ := by
  unfold AState.freeze
  split
  · rename_i t T xs hg
    have hmem := get?_mem hg
    have hs : Stays (hot X.O ρ s.own) w w := Stays.refl _ _
    have hsub : ∀ p ∈ mapOwn (LV.thaw id t xs) (del s.own id), ∃ o, (p.1, o) ∈ s.own := fun p hp => by
      obtain ⟨u, h1, _⟩ := mem_mapOwn hp
      exact ⟨u, (mem_del.1 h1).1⟩
    have hh : ∀ b, b < w.heap.size → hot X.O ρ (mapOwn (LV.thaw id t xs) (del s.own id)) b → hot X.O ρ s.own b := fun b _ hb => hot_sub hsub hb
    have hthaw : ∀ x v, RepL (hot X.O ρ s.own) w ρ x v → RepL (hot X.O ρ (mapOwn (LV.thaw id t xs) (del s.own id))) w ρ (x.thaw id t xs) v := by
      intro x v hx
      have hk := RepL_kill (id := id) hh hs (fun _ _ => rfl) hx
      cases x with
      | ownS i =>
        simp only [LV.thaw]
        split
        · rename_i e; subst e
          obtain ⟨hv, p, n, c, hv2⟩ := hx
          obtain ⟨hn, cells, hr, hl, hor⟩ := own_val h.own hg (by rw [← hv]; exact hv2)
          subst hn
          refine ⟨by rw [hv2]; rfl, ?_⟩
          rw [hv2]
          rcases hor with ⟨rfl, hx0, rfl⟩ | ⟨g, rfl, hb, h1, h2, cur, hh', h3, h4⟩
          · subst hx0; exact .inl ⟨rfl, rfl⟩
          · refine .inr ⟨g, 0, none, c, cells, rfl, fun _ => rfl, h1, h2, repL_move hh hs hr, ?_, fun j hj => cell_take hh' h4 hj⟩
            rintro _ (hg1 | ⟨p, hp, hg2⟩)
            · exact hO g hg1 hb
            · obtain ⟨u, hu1, _⟩ := mem_mapOwn hp
              have hd := mem_del.1 hu1
              have hne : i ≠ p.1 := fun e => hd.2 e.symm
              have hrb : Blk (ρ i) g := by rw [← hv, hv2]; rfl
              exact h.two (p := (i, .arr t T xs)) (q := (p.1, u)) hmem hd.1 hne hrb hg2
        · rename_i hne
          simpa [LV.kill, LV.isOf, hne] using hk
      | z t y => exact hk
      | ownP i off => exact hk
      | ownE i wd j => exact hk
      | ownW i wd j => exact hk
      | ownM i => exact hk
      | ownA i j => exact hk
      | ownR i j => exact hk
      | ownB i j wd k => exact hk
      | fn f caps => exact hk
      | val u => exact hk
      | junk => exact hk
    refine h.env_map hthaw ?_ (fun p hp hB hF => by obtain ⟨o, ho⟩ := hsub p hp; exact h.io (p.1, o) ho hB hF) ?_
    · intro p hp
      obtain ⟨u, h1, h2⟩ := mem_mapOwn hp
      have h3 := mem_del.1 h1
      have := (h.own _ h3.1).move (f := LV.thaw id t xs) (ρ' := ρ) hh hs hthaw rfl (fun _ _ => rfl)
      rw [← h2] at this
      exact this
    · exact pairwise_mapOwn (fun i j => i ≠ j ∧ ∀ b, Blk (ρ i) b → ¬ Blk (ρ j) b) (pairwise_del (fun i j => i ≠ j ∧ ∀ b, Blk (ρ i) b → ¬ Blk (ρ j) b) h.apart)
  · exact h

theorem Fits.freezeAll {X : Cx} {a : Act} {w : World} {ρ : Nat → Value} (hO : ∀ b, X.O b → ¬ X.M b) : ∀ (l : List Nat) {s : AState}, Fits X s a w ρ → Fits X (s.freezeAll l) a w ρ
  | [], _, h => h
  | i :: r, _, h => Fits.freezeAll hO r (h.freeze hO i)

theorem Fits.frozenAt {X : Cx} {s : AState} {a : Act} {w : World} {ρ : Nat → Value} (h : Fits X s a w ρ) (hO : ∀ b, X.O b → ¬ X.M b) (x : Operand) : Fits X (frozenAt s x) a w ρ := by
  unfold Go.Cm.frozenAt
  split
  · exact h.freezeAll hO _
  · exact h

/-- An operand as pure data. -/
theorem pureArg_ok {X : Cx} {s s' : AState} {a : Act} {w : World} {ρ : Nat → Value} (h : Fits X s a w ρ) (hO : ∀ b, X.O b → ¬ X.M b) {t : Ty} {x : Operand} {y : t.D} (he : pureArg s t x = some (y, s')) : Fits X s' a w ρ ∧ RepL (hot X.O ρ s'.own) w ρ (.z t y) (a.eval x) := by
  unfold pureArg at he
  have hf := h.frozenAt hO x
  split at he
  · rename_i v hv
    split at he
    · rename_i y' hy
      cases he
      exact ⟨hf, AV.get_ok hy (opnd_ok hf hv)⟩
    · cases he
  · cases he

theorem mem_upd {α : Type} : ∀ {l : List (Nat × α)} {n : Nat} {y : α} {p : Nat × α}, p ∈ upd l n y → p ∈ l ∧ p.1 ≠ n ∨ p = (n, y) ∨ (p ∈ l)
  | (k, x) :: r, n, y, p, h => by
    simp only [upd] at h
    split at h
    · rename_i e; subst e
      rcases List.mem_cons.1 h with rfl | h
      · exact .inr (.inl rfl)
      · exact .inr (.inr (by simp [h]))
    · rename_i e
      rcases List.mem_cons.1 h with rfl | h
      · exact .inl ⟨by simp, e⟩
      · rcases mem_upd h with ⟨h1, h2⟩ | h1 | h1
        · exact .inl ⟨by simp [h1], h2⟩
        · exact .inr (.inl h1)
        · exact .inr (.inr (by simp [h1]))

/-- Where the keys are apart, what is not the new entry has another key. -/
theorem mem_upd_ne {α : Type} {R : Nat → Nat → Prop} : ∀ {l : List (Nat × α)} {n : Nat} {y : α} {p : Nat × α}, l.Pairwise (fun p q => p.1 ≠ q.1 ∧ R p.1 q.1) → p ∈ upd l n y → p = (n, y) ∨ (p ∈ l ∧ p.1 ≠ n)
  | (k, x) :: r, n, y, p, hp, h => by
    rw [List.pairwise_cons] at hp
    simp only [upd] at h
    split at h
    · rename_i e; subst e
      rcases List.mem_cons.1 h with rfl | h
      · exact .inl rfl
      · exact .inr ⟨by simp [h], fun e => (hp.1 _ h).1 e.symm⟩
    · rename_i e
      rcases List.mem_cons.1 h with rfl | h
      · exact .inr ⟨by simp, e⟩
      · rcases mem_upd_ne hp.2 h with h1 | ⟨h1, h2⟩
        · exact .inl h1
        · exact .inr ⟨by simp [h1], h2⟩

theorem pairwise_upd {α : Type} {R : Nat → Nat → Prop} : ∀ {l : List (Nat × α)} {n : Nat} {y : α}, l.Pairwise (fun p q => R p.1 q.1) → (upd l n y).Pairwise (fun p q => R p.1 q.1)
  | [], _, _, _ => .nil
  | (k, x) :: r, n, y, h => by
    rw [List.pairwise_cons] at h
    simp only [upd]
    split
    · rename_i e; subst e
      rw [List.pairwise_cons]
      exact ⟨fun q hq => h.1 q hq, h.2⟩
    · rw [List.pairwise_cons]
      refine ⟨fun q hq => ?_, pairwise_upd h.2⟩
      rcases mem_upd hq with ⟨h1, _⟩ | h1 | h1
      · exact h.1 q h1
      · have : ∃ z, (n, z) ∈ r := by
          have key : ∀ {l : List (Nat × α)}, (n, y) ∈ upd l n y → ∃ z, (n, z) ∈ l := by
            intro l
            induction l with
            | nil => intro h; simp [upd] at h
            | cons c l ih =>
              intro h
              obtain ⟨k', x'⟩ := c
              simp only [upd] at h
              split at h
              · rename_i e; subst e; exact ⟨x', by simp⟩
              · rcases List.mem_cons.1 h with h | h
                · simp at h; obtain ⟨rfl, rfl⟩ := h; exact ⟨y, List.mem_cons_self ..⟩
                · obtain ⟨z, hz⟩ := ih h; exact ⟨z, by simp [hz]⟩
          exact key (h1 ▸ hq)
        obtain ⟨z, hz⟩ := this
        rw [h1]; exact h.1 (n, z) hz
      · exact h.1 q h1

/-- **A thing of the call's own is written or exchanged.** -/
theorem Fits.renew {X : Cx} {s : AState} {a : Act} {w w' : World} {ρ : Nat → Value} (h : Fits X s a w ρ) {id : Nat} {obj obj' : OObj} (hg : get? s.own id = some obj) {f : LV → LV} {val : Value}
    (hf : ∀ H' ρ', (∀ b, b < w.heap.size → H' b → hot X.O ρ s.own b) → Stays (hot X.O ρ s.own) w w' → (∀ i, i ≠ id → ρ' i = ρ i) → ρ' id = val → ∀ x v, RepL (hot X.O ρ s.own) w ρ x v → RepL H' w' ρ' (f x) v)
    (hkeep : ∀ k, k < w.heap.size → ¬ Blk (ρ id) k → w'.heap[k]? = w.heap[k]?) (hval : ∀ b, Blk val b → Blk (ρ id) b ∨ w.heap.size ≤ b)
    (hobj : ∀ H' ρ', (∀ b, b < w.heap.size → H' b → hot X.O ρ s.own b) → Stays (hot X.O ρ s.own) w w' → (∀ i, i ≠ id → ρ' i = ρ i) → ρ' id = val → OwnOK H' w' ρ' X.M (id, obj')) (hid : ioB ≤ id → X.T.free.contains id = false → val = ρ id) :
    ∃ ρ', ρ' id = val ∧ Fits X { env := mapEnv f s.env, own := upd (mapOwn f s.own) id obj' } a w' ρ' := by
  have hmem := get?_mem hg
  have hlt := fun p hp b hb => ((h.own p hp).lt (b := b) hb).2
  have hs : Stays (hot X.O ρ s.own) w w' := fun b hb hlt' => hkeep b (cells_lt hlt') (fun e => hb (hot_blk hmem e))
  have hρ : ∀ i, i ≠ id → setρ ρ id val i = ρ i := fun i hi => setρ_ne _ _ hi
  have hap := pairwise_mapOwn (f := f) (fun i j => i ≠ j ∧ ∀ b, Blk (ρ i) b → ¬ Blk (ρ j) b) h.apart
  have hold : ∀ p ∈ upd (mapOwn f s.own) id obj', p = (id, obj') ∨ ∃ u, (p.1, u) ∈ s.own ∧ p.2 = u.map f ∧ p.1 ≠ id := by
    intro p hp
    rcases mem_upd_ne (R := fun i j => ∀ b, Blk (ρ i) b → ¬ Blk (ρ j) b) hap hp with h1 | ⟨h1, h2⟩
    · exact .inl h1
    · obtain ⟨u, h3, h4⟩ := mem_mapOwn h1
      exact .inr ⟨u, h3, h4, h2⟩
  have hh : ∀ b, b < w.heap.size → hot X.O (setρ ρ id val) (upd (mapOwn f s.own) id obj') b → hot X.O ρ s.own b := by
    intro b hb h
    rcases h with h | ⟨p, hp, hp2⟩
    · exact .inl h
    · rcases hold p hp with rfl | ⟨u, h1, _, h2⟩
      · simp only [setρ_same] at hp2
        rcases hval b hp2 with h3 | h3
        · exact hot_blk hmem h3
        · omega
      · rw [setρ_ne _ _ h2] at hp2
        exact hot_blk h1 hp2
  have hff := hf _ _ hh hs hρ (setρ_same _ _ _)
  refine ⟨setρ ρ id val, setρ_same _ _ _, h.env_map hff ?_ ?_ ?_⟩
  · intro p hp
    rcases hold p hp with rfl | ⟨u, h1, h2, h3⟩
    · exact hobj _ _ hh hs hρ (setρ_same _ _ _)
    · have := (h.own _ h1).move (f := f) (ρ' := setρ ρ id val) hh hs hff (hρ _ h3) (fun b hb => hkeep b (hlt _ h1 b hb) (fun e => h.two (p := (id, obj)) (q := (p.1, u)) hmem h1 (fun e => h3 e.symm) e hb))
      rw [← h2] at this
      exact this
  · intro p hp hB hF
    rcases hold p hp with rfl | ⟨u, h1, _, h3⟩
    · simp only [setρ_same] at hB hF ⊢
      rw [hid hB hF]
      exact h.io _ hmem hB hF
    · rw [hρ _ h3]
      exact h.io (p.1, u) h1 hB hF
  · have hpw := pairwise_upd (n := id) (y := obj') (R := fun i j => i ≠ j ∧ ∀ b, Blk (ρ i) b → ¬ Blk (ρ j) b) hap
    refine hpw.imp_of_mem fun {p q} hp hq hpq => ⟨hpq.1, fun b hb hqb => ?_⟩
    rcases hold p hp with rfl | ⟨u, h1, h2, h3⟩ <;> rcases hold q hq with rfl | ⟨u', h1', h2', h3'⟩
    · exact absurd rfl hpq.1
    · rw [setρ_ne _ _ h3'] at hqb
      simp only [setρ_same] at hb
      rcases hval b hb with h4 | h4
      · exact h.two (p := (id, obj)) (q := (q.1, u')) hmem h1' (fun e => h3' e.symm) h4 hqb
      · have := hlt _ h1' b hqb; omega
    · rw [setρ_ne _ _ h3] at hb
      simp only [setρ_same] at hqb
      rcases hval b hqb with h4 | h4
      · exact h.two (p := (id, obj)) (q := (p.1, u)) hmem h1 (fun e => h3 e.symm) h4 hb
      · have := hlt _ h1 b hb; omega
    · rw [setρ_ne _ _ h3] at hb
      rw [setρ_ne _ _ h3'] at hqb
      exact hpq.2 b hb hqb

end Go.Cm
end

section
/- The machine is right: literals. -/
namespace Go.Cm
open Go.RowKit

theorem Ty.zeroCells_length : ∀ (t : Ty), t.zeroCells.length = t.w
  | .int _ | .bool | .str | .unit | .slice _ | .ptr _ | .opt _ | .func => rfl
  | .pair a b => by simp [zeroCells, w, a.zeroCells_length, b.zeroCells_length]
  | .st t => by simp [zeroCells, w, t.zeroCells_length]
  | .arr n t => by simp [zeroCells, w, t.zeroCells_length]

theorem mkV_cells {t : Ty} (h : t.isAgg = false → t.w = 1) (cs : List Value) (hl : cs.length = t.w) (h1 : ∀ c ∈ cs, c.oneCell' = true) : (mkV t.isAgg cs).cells.toList = cs := by
  cases ha : t.isAgg with
  | true => simp [mkV, Value.cells]
  | false =>
    rw [h ha] at hl
    match cs, hl with
    | [c], _ => exact cells_one (isAggV_of_one (h1 c (by simp)))

theorem Ty.zeroCells_one : ∀ (t : Ty), ∀ c ∈ t.zeroCells, c.oneCell' = true
  | .int _ | .bool | .str | .unit | .slice _ | .ptr _ | .opt _ | .func => by simp [zeroCells, Value.oneCell']
  | .pair a b => by
    intro c hc
    rcases List.mem_append.1 hc with h | h
    · exact a.zeroCells_one c h
    · exact b.zeroCells_one c h
  | .st t => t.zeroCells_one
  | .arr n t => by
    intro c hc
    obtain ⟨l, h1, h2⟩ := List.mem_flatten.1 hc
    rw [List.eq_of_mem_replicate h1] at h2
    exact t.zeroCells_one c h2

/-! ### 'fill' -/
theorem foldl_set : ∀ (vs : List Value) (k : Nat) (cur done old rest : List Value), cur = done ++ old ++ rest → old.length = vs.length →
    ∀ (off : Nat), done.length = off + k → ((vs.zipIdx k).foldl (fun (cs : Array Value) (p : Value × Nat) => cs.setIfInBounds (off + p.2) p.1) cur.toArray).toList = done ++ vs ++ rest
  | [], k, cur, done, old, rest, e, hl, off, hd => by
    have : old = [] := List.eq_nil_of_length_eq_zero (by simpa using hl)
    subst this; simp [e]
  | v :: vs, k, cur, done, old, rest, e, hl, off, hd => by
    match old, hl with
    | u :: old, hl =>
      have hset : (cur.toArray.setIfInBounds (off + k) v) = (done ++ [v] ++ old ++ rest).toArray := by
        apply Array.ext'
        rw [Array.toList_setIfInBounds]
        simp only [e, ← hd]
        simp
      rw [List.zipIdx_cons, List.foldl_cons]
      simp only [hset]
      have := foldl_set vs (k + 1) (done ++ [v] ++ old ++ rest) (done ++ [v]) old rest rfl (by simpa using hl) off (by simp; omega)
      rw [this]; simp

/-- The segments of a row that is filled: the parts', and what was there where none is. -/
def segs : List (Nat × Value) → List (List Value) → Nat → Option (List (List Value))
  | [], zs, _ => some zs
  | _ :: _, [], _ => none
  | (j, v) :: ps, z :: zs, i => if j = i then
      if v.cells.size = z.length then (segs ps zs (i + 1)).map (v.cells.toList :: ·) else none
    else (segs ((j, v) :: ps) zs (i + 1)).map (z :: ·)

theorem fill_segs (place : Nat → Option (Nat × Nat)) : ∀ (zs : List (List Value)) (ps : List (Nat × Value)) (i : Nat) (done : List Value) (r : List (List Value)),
    (∀ k (h : k < zs.length), place (i + k) = some (done.length + (zs.take k).flatten.length, zs[k].length)) → segs ps zs i = some r → Instr.fill place (done ++ zs.flatten).toArray ps = some (done ++ r.flatten).toArray
  | zs, [], i, done, r, _, h => by simp [segs] at h; subst h; rfl
  | [], _ :: _, i, done, r, _, h => by simp [segs] at h
  | z :: zs, (j, v) :: ps, i, done, r, hp, h => by
    simp only [segs] at h
    have hp0 := hp 0 (by simp)
    simp only [Nat.add_zero, List.take_zero, List.flatten_nil, List.length_nil, List.getElem_cons_zero] at hp0
    have hps : ∀ (seg : List Value), seg.length = z.length → ∀ k (h : k < zs.length), place (i + 1 + k) = some ((done ++ seg).length + (zs.take k).flatten.length, zs[k].length) := by
      intro seg hseg k hk
      have := hp (k + 1) (by simpa using hk)
      simp only [List.take_succ_cons, List.flatten_cons, List.length_append, List.getElem_cons_succ] at this
      rw [show i + 1 + k = i + (k + 1) by omega, this]
      simp [hseg, Nat.add_assoc]
    split at h
    · rename_i e; subst e
      split at h
      · rename_i hs
        obtain ⟨r', hr, rfl⟩ := Option.map_eq_some_iff.1 h
        unfold Instr.fill
        simp only [hp0]
        have hbound : ¬ ((decide (v.cells.size ≠ z.length) || decide (done.length + v.cells.size > (done ++ (z :: zs).flatten).toArray.size)) = true) := by
          simp [hs]
        rw [if_neg hbound]
        have hf := foldl_set v.cells.toList 0 (done ++ (z :: zs).flatten) done z zs.flatten (by simp) (by simp [hs]) done.length (by omega)
        have hz : (v.cells.zipIdx.foldl (fun cs (c, j) => cs.setIfInBounds (done.length + j) c) (done ++ (z :: zs).flatten).toArray) = (done ++ v.cells.toList ++ zs.flatten).toArray := by
          apply Array.ext'
          rw [← hf, ← Array.foldl_toList, Array.toList_zipIdx]
        rw [hz, fill_segs place zs ps (j + 1) (done ++ v.cells.toList) r' (hps _ (by simp [hs])) hr]
        simp
      · cases h
    · obtain ⟨r', hr, rfl⟩ := Option.map_eq_some_iff.1 h
      have := fill_segs place zs ((j, v) :: ps) (i + 1) (done ++ z) r' (hps z rfl) hr
      simpa using this

/-! ### Cells of data -/
theorem Ty.cells_ok {H : Nat → Prop} {w : World} (ρ : Nat → Value) : ∀ (t : Ty) {cs : List Value} {x : t.D}, t.rep H w cs x → All2 (RepC H w ρ) (t.cells x) cs := by
  have one : ∀ (t : Ty), t.isAgg = false → ∀ {cs : List Value} {x : t.D}, cs.length = 1 → t.rep H w cs x → All2 (RepC H w ρ) [LV.z t x] cs := by
    intro t ha cs x hl h
    match cs, hl with
    | [c], _ =>
      have h1 := t.rep_oneCell h c (by simp)
      refine ⟨⟨⟨by rw [ha]; exact isAggV_of_one h1, ?_⟩, h1⟩, trivial⟩
      rw [cells_one (isAggV_of_one h1)]; exact h
  intro t
  induction t with
  | unit => intro cs x h; rw [show cs = [] from h]; trivial
  | pair a b iha ihb =>
    rintro cs x ⟨c, d, rfl, h1, h2⟩
    exact (iha h1).append (ihb h2)
  | st t ih => intro cs x h; exact ih h
  | arr n t ih =>
    rintro cs x ⟨_, h⟩
    have key : ∀ {xs : List t.D} {cs : List Value}, repL (fun c y => t.rep H w c y) cs xs → All2 (RepC H w ρ) (xs.flatMap t.cells) cs := by
      intro xs
      induction xs with
      | nil => intro cs h; simp [repL] at h; subst h; trivial
      | cons y ys ih2 =>
        rintro cs ⟨c, d, rfl, h1, h2⟩
        exact (ih h1).append (ih2 h2)
    exact key h
  | int k => intro cs x h; exact one (.int k) rfl (Ty.rep_length _ h) h
  | bool => intro cs x h; exact one .bool rfl (Ty.rep_length _ h) h
  | str => intro cs x h; exact one .str rfl (Ty.rep_length _ h) h
  | slice t => intro cs x h; exact one (.slice t) rfl (Ty.rep_length _ h) h
  | ptr t => intro cs x h; exact one (.ptr t) rfl (Ty.rep_length _ h) h
  | opt t => intro cs x h; exact one (.opt t) rfl (Ty.rep_length _ h) h
  | func => intro cs x h; rw [show cs = [.nilFunc] from h]; exact ⟨⟨rfl, rfl⟩, trivial⟩

theorem LV.cells_ok {H : Nat → Prop} {w : World} {ρ : Nat → Value} {x : LV} {cs : List LV} {v : Value} (he : x.cells = some cs) (h : RepL H w ρ x v) : All2 (RepC H w ρ) cs v.cells.toList := by
  cases x with
  | z t y => simp [LV.cells] at he; subst he; exact t.cells_ok ρ h.2
  | ownS id =>
    simp [LV.cells] at he; subst he
    obtain ⟨hv, a, n, c, hv2⟩ := h
    have : v.oneCell' = true := by rw [hv2]; rfl
    rw [cells_one (isAggV_of_one this)]
    exact ⟨⟨⟨hv, a, n, c, hv2⟩, this⟩, trivial⟩
  | ownP id off =>
    simp [LV.cells] at he; subst he
    obtain ⟨b, hb, hv⟩ := h
    have : v.oneCell' = true := by rw [hv]; rfl
    rw [cells_one (isAggV_of_one this)]
    exact ⟨⟨⟨b, hb, hv⟩, this⟩, trivial⟩
  | ownE id wd i =>
    simp [LV.cells] at he; subst he
    obtain ⟨b, o, n, c, hb, hv⟩ := h
    have : v.oneCell' = true := by rw [hv]; rfl
    rw [cells_one (isAggV_of_one this)]
    exact ⟨⟨⟨b, o, n, c, hb, hv⟩, this⟩, trivial⟩
  | ownW id wd i =>
    simp [LV.cells] at he; subst he
    obtain ⟨b, n, c, hb, hi, hv⟩ := h
    have : v.oneCell' = true := by rw [hv]; rfl
    rw [cells_one (isAggV_of_one this)]
    exact ⟨⟨⟨b, n, c, hb, hi, hv⟩, this⟩, trivial⟩
  | ownM id =>
    simp [LV.cells] at he; subst he
    have h' := h
    obtain ⟨a, n, c, vs, hb, hv⟩ := h
    have : v.oneCell' = true := by rw [hv]; rfl
    rw [cells_one (isAggV_of_one this)]
    exact ⟨⟨h', this⟩, trivial⟩
  | ownA id i =>
    simp [LV.cells] at he; subst he
    have h' := h
    obtain ⟨b, n, c, vs, hb, hv⟩ := h
    have : v.oneCell' = true := by rw [hv]; rfl
    rw [cells_one (isAggV_of_one this)]
    exact ⟨⟨h', this⟩, trivial⟩
  | ownR id j =>
    simp [LV.cells] at he; subst he
    have h' := h
    obtain ⟨h0, vs, a, n, c, hb, hj, hv⟩ := h
    have : v.oneCell' = true := by rw [hv]; rfl
    rw [cells_one (isAggV_of_one this)]
    exact ⟨⟨h', this⟩, trivial⟩
  | ownB id j wd i =>
    simp [LV.cells] at he; subst he
    have h' := h
    obtain ⟨h0, vs, b, n, c, hb, hj, hv⟩ := h
    have : v.oneCell' = true := by rw [hv]; rfl
    rw [cells_one (isAggV_of_one this)]
    exact ⟨⟨h', this⟩, trivial⟩
  | fn f caps =>
    simp [LV.cells] at he; subst he
    obtain ⟨vs, hv, hc⟩ := h
    have : v.oneCell' = true := by rw [hv]; rfl
    rw [cells_one (isAggV_of_one this)]
    exact ⟨⟨⟨vs, hv, hc⟩, this⟩, trivial⟩
  | val u =>
    simp only [LV.cells] at he
    split at he
    · rename_i h1
      cases he
      have hv : v = u := h
      subst hv
      rw [cells_one (isAggV_of_one h1)]
      exact ⟨⟨rfl, h1⟩, trivial⟩
    · cases he
  | junk => simp [LV.cells] at he

theorem AV.cells_ok {H : Nat → Prop} {w : World} {ρ : Nat → Value} {x : AV} {cs : List LV} {v : Value} (he : x.cells = some cs) (h : RepV H w ρ x v) : All2 (RepC H w ρ) cs v.cells.toList := by
  cases x with
  | l x => exact LV.cells_ok he h
  | agg l => simp [AV.cells] at he; subst he; obtain ⟨vs, rfl, h⟩ := h; simpa [Value.cells] using h
  | tup => simp [AV.cells] at he
  | g => simp [AV.cells] at he
  | gt => simp [AV.cells] at he

theorem zero_const {H : Nat → Prop} {w : World} {ρ : Nat → Value} (t : Ty) : All2 (RepC H w ρ) (t.zeroCells.map constLV) t.zeroCells := by
  have key : ∀ l : List Value, (∀ c ∈ l, c.oneCell' = true) → All2 (RepC H w ρ) (l.map constLV) l := by
    intro l
    induction l with
    | nil => intro _; trivial
    | cons c l ih => exact fun h => ⟨⟨const_ok c, h c (by simp)⟩, ih (fun c hc => h c (by simp [hc]))⟩
  exact key _ t.zeroCells_one

/-! ### A struct that is built -/
theorem buildCells_ok {X : Cx} {s : AState} {a : Act} {w : World} {ρ : Nat → Value} (h : Fits X s a w ρ) : ∀ (ts : List Ty) (i : Nat) (ps : List (Nat × Operand)) {cs : List LV}, buildCells s ts i ps = some cs →
    ∃ r, segs (ps.map fun (p : Nat × Operand) => (p.1, a.eval p.2)) (ts.map Ty.zeroCells) i = some r ∧ All2 (RepC (hot X.O ρ s.own) w ρ) cs r.flatten
  | [], i, [], cs, he => by simp [buildCells] at he; subst he; exact ⟨[], rfl, trivial⟩
  | [], i, _ :: _, cs, he => by simp [buildCells] at he
  | t :: ts, i, [], cs, he => by
    simp only [buildCells] at he
    split at he
    · rename_i r hr
      cases he
      obtain ⟨r', h1, h2⟩ := buildCells_ok h ts (i + 1) [] hr
      simp [segs] at h1; subst h1
      exact ⟨_, rfl, (zero_const t).append h2⟩
    · cases he
  | t :: ts, i, (j, x) :: ps, cs, he => by
    simp only [buildCells] at he
    simp only [List.map_cons, segs]
    split at he
    · rename_i e; subst e
      rw [if_pos rfl]
      split at he
      · rename_i v hv
        split at he
        · rename_i c hc
          split at he
          · rename_i hl
            split at he
            · rename_i r hr
              cases he
              have hok := AV.cells_ok hc (opnd_ok h hv)
              obtain ⟨r', h1, h2⟩ := buildCells_ok h ts (j + 1) ps hr
              have hlen := hok.length
              have hsz : (a.eval x).cells.size = t.zeroCells.length := by
                rw [t.zeroCells_length, ← hl, hlen]; simp
              rw [if_pos hsz, h1]
              exact ⟨_, rfl, hok.append h2⟩
            · cases he
          · cases he
        · cases he
      · cases he
    · rename_i hne
      rw [if_neg hne]
      split at he
      · rename_i r hr
        cases he
        obtain ⟨r', h1, h2⟩ := buildCells_ok h ts (i + 1) ((j, x) :: ps) hr
        simp only [List.map_cons] at h1
        rw [h1]
        exact ⟨_, rfl, (zero_const t).append h2⟩
      · cases he

theorem Ty.fields_flat : ∀ (t : Ty), (t.fields.map Ty.zeroCells).flatten = t.zeroCells
  | .pair a b => by simp [fields, zeroCells, b.fields_flat]
  | .int _ | .bool | .str | .unit | .st _ | .arr _ _ | .slice _ | .ptr _ | .opt _ | .func => by simp [fields, zeroCells]

theorem Ty.fields_at : ∀ (t : Ty) (k : Nat) (h : k < t.fields.length), t.fields[k] = t.fieldTy k ∧ ((t.fields.map Ty.zeroCells).take k).flatten.length = t.fieldOff k
  | .pair a b, 0, _ => by simp [fields, fieldTy, fieldOff]
  | .pair a b, k + 1, h => by
    have := b.fields_at k (by simpa [fields] using h)
    simp only [fields, List.getElem_cons_succ, fieldTy, fieldOff, List.map_cons, List.take_succ_cons, List.flatten_cons, List.length_append, this.1, this.2, a.zeroCells_length]
    exact ⟨trivial, trivial⟩
  | .unit, k, h => by simp [fields] at h
  | .int _, 0, _ | .bool, 0, _ | .str, 0, _ | .st _, 0, _ | .arr _ _, 0, _ | .slice _, 0, _ | .ptr _, 0, _ | .opt _, 0, _ | .func, 0, _ => by simp [fields, fieldTy, fieldOff]
  | .int _, k + 1, h | .bool, k + 1, h | .str, k + 1, h | .st _, k + 1, h | .arr _ _, k + 1, h | .slice _, k + 1, h | .ptr _, k + 1, h | .opt _, k + 1, h | .func, k + 1, h => by simp [fields] at h

theorem mapM_some {α β : Type} (f : α → Option β) (g : Nat → β) : ∀ (l : List α) (k : Nat), (∀ i (h : i < l.length), f l[i] = some (g (k + i))) → l.mapM f = some ((List.range' k l.length).map g)
  | [], _, _ => rfl
  | x :: l, k, h => by
    have h0 := h 0 (by simp)
    have := mapM_some f g l (k + 1) (fun i hi => by
      have := h (i + 1) (by simpa using hi)
      rw [show k + 1 + i = k + (i + 1) by omega]; simpa using this)
    simp only [List.getElem_cons_zero, Nat.add_zero] at h0
    simp [List.mapM_cons, h0, this, List.range'_succ]

theorem run_build_st {P : Program} {T : TypeId} {t : Ty} (ht : TyOK P T (.st t)) {w : World} {ps : Array (Nat × Value)} {r : List (List Value)} (hr : segs ps.toList (t.fields.map Ty.zeroCells) 0 = some r) :
    (Instr.build T ps).run P w = .ok (.agg r.flatten.toArray) w := by
  obtain ⟨i, d, hi, hu, hsz, hrow, hz, fs, rfl, hn, hf⟩ := ht
  refine run_build w T ps _ ?_
  unfold Program.built
  simp only [hi, hu, hz]
  have hplaces : fs.toList.mapM (fun f => (P.info? f.type).map fun i => (f.offset, i.size)) = some ((List.range' 0 fs.toList.length).map fun k => (t.fieldOff k, (t.fieldTy k).w)) := by
    refine mapM_some _ _ _ _ (fun k hk => ?_)
    obtain ⟨f, j, e, h1, h2, h3, h4, _⟩ := hf k (by rw [← hn]; simpa using hk)
    have hfk : fs.toList[k] = f := by
      have h1' := h1
      rw [Array.getElem?_eq_getElem (by simpa using hk)] at h1'
      simpa using h1'
    rw [hfk, h3]; simp [h2, h4]
  rw [hplaces]
  simp only []
  have hfill := fill_segs (((List.range' 0 fs.toList.length).map fun k => (t.fieldOff k, (t.fieldTy k).w)).toArray[·]?) (t.fields.map Ty.zeroCells) ps.toList 0 [] r (fun k hk => by
    have hk' : k < t.fields.length := by simpa using hk
    have hfa := t.fields_at k hk'
    have hk2 : k < fs.size := by omega
    simp only [Nat.zero_add, List.length_nil, List.getElem_map, hfa.1, Ty.zeroCells_length, hfa.2]
    simp [hk2]) hr
  rw [t.fields_flat] at hfill
  simpa [mkV, Ty.isAgg, Value.cells, Ty.zeroCells] using hfill

/-! ### A row of elements that is built -/
theorem litArgs_ok {X : Cx} {a : Act} {w : World} {ρ : Nat → Value} (hO : ∀ b, X.O b → ¬ X.M b) {t : Ty} (ht : t.isAgg = false → t.w = 1) : ∀ (n i : Nat) (ps : List (Nat × Operand)) {s s' : AState} {xs : List t.D}, Fits X s a w ρ → litArgs t n i ps s = some (xs, s') →
    Fits X s' a w ρ ∧ xs.length = n ∧ (∀ b, hot X.O ρ s'.own b → hot X.O ρ s.own b) ∧ ∃ r, segs (ps.map fun (p : Nat × Operand) => (p.1, a.eval p.2)) (List.replicate n t.zeroCells) i = some r ∧ repL (fun c x => t.rep (hot X.O ρ s'.own) w c x) r.flatten xs
  | 0, i, [], s, s', xs, h, he => by simp [litArgs] at he; obtain ⟨rfl, rfl⟩ := he; exact ⟨h, rfl, fun _ h => h, [], rfl, rfl⟩
  | 0, i, _ :: _, s, s', xs, h, he => by simp [litArgs] at he
  | n + 1, i, [], s, s', xs, h, he => by
    simp only [litArgs] at he
    split at he
    · rename_i y hy
      split at he
      · rename_i r s2 hr
        cases he
        obtain ⟨h1, h2, h3, r', h4, h5⟩ := litArgs_ok hO ht n (i + 1) [] h hr
        simp [segs] at h4; subst h4
        exact ⟨h1, by simp [h2], h3, _, rfl, t.zeroCells, _, by simp [List.replicate_succ], t.rep_zero _ w hy, h5⟩
      · cases he
    · cases he
  | n + 1, i, (j, x) :: ps, s, s', xs, h, he => by
    simp only [litArgs] at he
    simp only [List.map_cons, List.replicate_succ, segs]
    split at he
    · rename_i e; subst e
      rw [if_pos rfl]
      split at he
      · rename_i y s1 hy
        split at he
        · rename_i r s2 hr
          cases he
          obtain ⟨g1, g2⟩ := pureArg_ok h hO hy
          obtain ⟨h1, h2, h3, r', h4, h5⟩ := litArgs_ok hO ht n (j + 1) ps g1 hr
          have hsub : ∀ b, hot X.O ρ s1.own b → hot X.O ρ s.own b := by
            intro b hb
            unfold pureArg at hy
            have hfz : s1 = frozenAt s x := by
              split at hy
              · split at hy
                · cases hy; rfl
                · cases hy
              · cases hy
            subst hfz
            unfold frozenAt at hb
            split at hb
            · rename_i v hv
              clear hv hy hr g1 g2 h1 h2 h3 h4 h5
              have key : ∀ (l : List Nat) (s : AState), hot X.O ρ (s.freezeAll l).own b → hot X.O ρ s.own b := by
                intro l
                induction l with
                | nil => intro s h; exact h
                | cons k l ih =>
                  intro s h
                  have := ih (s.freeze k) h
                  unfold AState.freeze at this
                  split at this
                  · refine hot_sub (fun p hp => ?_) this
                    obtain ⟨u, h1, _⟩ := mem_mapOwn hp
                    exact ⟨u, (mem_del.1 h1).1⟩
                  · exact this
              exact key _ _ hb
            · exact hb
          have g2' := RepL_move (x := .z t y) (fun b _ hb => h3 b hb) (Stays.refl _ w) (fun _ _ => rfl) g2
          have hlen := t.rep_length g2'.2
          have hsz : (a.eval x).cells.size = t.zeroCells.length := by rw [t.zeroCells_length, ← hlen]; simp
          rw [if_pos hsz, h4]
          exact ⟨h1, by simp [h2], fun b hb => hsub b (h3 b hb), _, rfl, _, _, rfl, g2'.2, h5⟩
        · cases he
      · cases he
    · rename_i hne
      rw [if_neg hne]
      split at he
      · rename_i y hy
        split at he
        · rename_i r s2 hr
          cases he
          obtain ⟨h1, h2, h3, r', h4, h5⟩ := litArgs_ok hO ht n (i + 1) ((j, x) :: ps) h hr
          simp only [List.map_cons] at h4
          rw [h4]
          exact ⟨h1, by simp [h2], h3, _, rfl, t.zeroCells, _, rfl, t.rep_zero _ w hy, h5⟩
        · cases he
      · cases he

theorem flatten_replicate_length (n : Nat) (l : List Value) : (List.replicate n l).flatten.length = n * l.length := by simp

theorem range_zero (n : Nat) {z : List Value} (hz : 0 < z.length) : (Array.range (n * z.length)).map (fun i => z.toArray[i % z.toArray.size]!) = (List.replicate n z).flatten.toArray := by
  apply Array.ext'
  apply List.ext_getElem?
  intro i
  by_cases hi : i < n * z.length
  · have hm : i % z.length < z.length := Nat.mod_lt _ hz
    have hl : (List.replicate n z).flatten[i]? = z[i % z.length]? := by
      clear hm
      induction n generalizing i with
      | zero => simp at hi
      | succ n ih =>
        rw [List.replicate_succ, List.flatten_cons]
        by_cases h2 : i < z.length
        · rw [List.getElem?_append_left h2, Nat.mod_eq_of_lt h2]
        · have h3 : i - z.length < n * z.length := by rw [Nat.succ_mul] at hi; omega
          rw [List.getElem?_append_right (by omega), ih _ h3]
          congr 1
          rw [Nat.mod_eq_sub_mod (by omega : i ≥ z.length)]
    have hlen : i < (List.replicate n z).flatten.length := by simpa using hi
    rw [List.getElem?_eq_getElem hlen, List.getElem?_eq_getElem hm] at hl
    simp [hi, hm]
    simpa using hl.symm
  · simp [hi]

theorem range_zero' (n : Nat) {t : Ty} (ht : t.isAgg = false → t.w = 1) (hw : 0 < t.w) : (Array.range (n * t.w)).map (fun i => (mkV t.isAgg t.zeroCells).cells[i % (mkV t.isAgg t.zeroCells).cells.size]!) = (List.replicate n t.zeroCells).flatten.toArray := by
  have hc := mkV_cells ht t.zeroCells t.zeroCells_length t.zeroCells_one
  have hc' : (mkV t.isAgg t.zeroCells).cells = t.zeroCells.toArray := by apply Array.ext'; simpa using hc
  rw [hc', ← range_zero n (by rw [t.zeroCells_length]; exact hw), t.zeroCells_length]

theorem replicate_places (n : Nat) (l : List Value) (k : Nat) (h : k < (List.replicate n l).length) : some (k * l.length, l.length) = some (([] : List Value).length + ((List.replicate n l).take k).flatten.length, (List.replicate n l)[k].length) := by
  have hk : k ≤ n := by simp at h; omega
  simp [List.take_replicate, Nat.min_eq_left hk]

end Go.Cm
end
