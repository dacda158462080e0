/- Merged by a program out of several texts. -/
import Derived.Test.YtcopdikdkkdlfaaDoorQ3
import Derived.Test.YtcopdikdkkdlfaaDoorProg
import Derived.Shelf.Spec.TrailingZeros
import Derived.Lib.LaidTab
import Derived.KernelRfl
import Derived.Shelf.Abstract
import Derived.RangeFuncBox
import Derived.WalkKit
import Derived.OwnWalkIn
import Derived.TacticsInMore
import Derived.LoopNIn
import Derived.LoopIn
import Derived.Shelf.Small.Bits
import Derived.Shelf.Bits.Mul64
import Derived.Shelf.Slices.Clone
import Derived.Laws.CopyOwn
import Derived.Deep.RegionLaw
import Derived.BigQuiet
import Derived.Shelf.SlSortCmp.Whole1
import Derived.Lib.RowBridge
import Derived.Lib.SortBridge
set_option linter.all false
set_option linter.unusedSimpArgs false
set_option linter.unusedVariables false

section
/- The reference's functions on graphs, as the plain functions of before. No program is in sight. -/
namespace Go.Cm.Gr
open Go.Cm

/-! ### Distances, step by step -/
def fv (g : Gph) (s k v : Nat) : Int := match (List.range k).find? fun j => (atK g s j).testBit v with
  | some j => (j : Int)
  | none => -1
theorem fv_zero (g : Gph) (s v : Nat) : fv g s 0 v = -1 := rfl
theorem fv_succ (g : Gph) (s k v : Nat) : fv g s (k + 1) v = if fv g s k v < 0 then (if (atK g s k).testBit v = true then (k : Int) else -1) else fv g s k v := by
  unfold fv
  rw [List.range_succ, List.find?_append]
  cases h : (List.range k).find? fun j => (atK g s j).testBit v with
  | some j => simp only [Option.some_or]; rw [if_neg (by omega)]
  | none =>
    simp only [Option.none_or, List.find?_cons, List.find?_nil]
    rw [if_pos (by omega)]
    cases (atK g s k).testBit v <;> simp
theorem fv_end (g : Gph) (s v : Nat) : fv g s (g.length + 1) v = far1 g s v := rfl

def farV (g : Gph) (s k z : Nat) : List Int := (List.range g.length).map fun v => if v < z then fv g s (k + 1) v else fv g s k v
theorem farV_len (g : Gph) (s k z : Nat) : (farV g s k z).length = g.length := by simp [farV]
theorem farV_at {g : Gph} {s k z v : Nat} (h : v < g.length) : gi (farV g s k z) v = if v < z then fv g s (k + 1) v else fv g s k v := gi_map h
theorem map_ext {n : Nat} {f h : Nat → Int} (e : ∀ v, v < n → f v = h v) : (List.range n).map f = (List.range n).map h := List.map_congr_left fun v hv => e v (by simpa using hv)
theorem farV_first (g : Gph) (s : Nat) : farV g s 0 0 = List.replicate g.length (-1) := by
  refine list_eq (by simp [farV]) fun i hi => ?_
  rw [farV_len] at hi
  rw [farV_at hi, if_neg (by omega), fv_zero, gi_rep hi]
theorem farV_next {g : Gph} {s k z : Nat} (h : ¬ z < g.length) : farV g s k z = farV g s (k + 1) 0 := map_ext fun v hv => by rw [if_pos (by omega), if_neg (by omega)]
theorem farV_last {g : Gph} {s k : Nat} (h : k = g.length + 1) : farV g s k 0 = far g s := by
  subst h; exact map_ext fun v hv => by rw [if_neg (by omega), fv_end]
theorem farV_skip {g : Gph} {s k z : Nat} (hb : (atK g s k).testBit z = false) : farV g s k (z + 1) = farV g s k z := map_ext fun v hv => by
  by_cases h : v = z
  · subst h
    rw [if_pos (by omega), if_neg (by omega), fv_succ, hb]
    by_cases h2 : fv g s k v < 0
    · have : fv g s k v = -1 := by
        unfold fv at *
        split at h2
        · omega
        · rfl
      rw [if_pos h2, this]; rfl
    · rw [if_neg h2]
  · by_cases h2 : v < z
    · rw [if_pos (by omega), if_pos h2]
    · rw [if_neg (by omega), if_neg h2]
theorem farV_keep {g : Gph} {s k z : Nat} (hz : z < g.length) (h0 : ¬ gi (farV g s k z) z < 0) : farV g s k (z + 1) = farV g s k z := map_ext fun v hv => by
  by_cases h : v = z
  · subst h
    rw [farV_at hz, if_neg (by omega)] at h0
    rw [if_pos (by omega), if_neg (by omega), fv_succ, if_neg h0]
  · by_cases h2 : v < z
    · rw [if_pos (by omega), if_pos h2]
    · rw [if_neg (by omega), if_neg h2]
theorem farV_put {g : Gph} {s k z : Nat} (hz : z < g.length) (hb : (atK g s k).testBit z = true) (h0 : gi (farV g s k z) z < 0) : (farV g s k z).set z (k : Int) = farV g s k (z + 1) := by
  refine list_eq (by simp [farV]) fun i hi => ?_
  rw [List.length_set, farV_len] at hi
  rw [farV_at hz, if_neg (by omega)] at h0
  rw [gi_set (by rw [farV_len]; exact hz), farV_at hi, farV_at hi]
  by_cases h : z = i
  · subst h
    rw [if_pos rfl, if_pos (by omega), fv_succ, if_pos h0, hb]; rfl
  · rw [if_neg h]
    by_cases h2 : i < z
    · rw [if_pos h2, if_pos (by omega)]
    · rw [if_neg h2, if_neg (by omega)]
theorem fv_range {g : Gph} {s k v : Nat} : -1 ≤ fv g s k v ∧ fv g s k v ≤ k := by
  unfold fv
  split
  · rename_i j h
    have := List.mem_of_find?_eq_some h
    simp at this
    omega
  · omega

theorem set_neg {i n : Nat} (h : i < n) : (List.replicate i (-1 : Int) ++ List.replicate (n - i) 0).set i (-1) = List.replicate (i + 1) (-1) ++ List.replicate (n - (i + 1)) 0 := by
  rw [List.set_append_right _ _ (by simp), List.length_replicate, Nat.sub_self, show n - i = (n - (i + 1)) + 1 by omega, List.replicate_succ, List.set_cons_zero, List.replicate_succ' (n := i)]
  simp
/-- One step on, node by node, edge by edge. -/
def nxtV (g : Gph) (s z : Nat) : Nat := (List.range z).foldl (fun a v => if s.testBit v then (row g v).foldl (fun a w => a ||| 1 <<< w.toNat) a else a) 0
def nxtJ (g : Gph) (s v j : Nat) : Nat := ((row g v).take j).foldl (fun a w => a ||| 1 <<< w.toNat) (nxtV g s v)
theorem nxtV_zero (g : Gph) (s : Nat) : nxtV g s 0 = 0 := rfl
theorem nxtV_end {g : Gph} {s z : Nat} (h : z = g.length) : nxtV g s z = nxt g s := by subst h; rfl
theorem nxtV_f {g : Gph} {s v : Nat} (h : s.testBit v = false) : nxtV g s (v + 1) = nxtV g s v := by simp [nxtV, List.range_succ, h]
theorem nxtJ_zero (g : Gph) (s v : Nat) : nxtJ g s v 0 = nxtV g s v := rfl
theorem nxtJ_succ {g : Gph} {s v j : Nat} (h : j < (row g v).length) : nxtJ g s v (j + 1) = nxtJ g s v j ||| 1 <<< (gi (row g v) j).toNat := by
  unfold nxtJ
  rw [take_snoc h, List.foldl_append, gi_at h]; rfl
theorem nxtJ_end {g : Gph} {s v j : Nat} (hb : s.testBit v = true) (h : ¬ j < (row g v).length) : nxtJ g s v j = nxtV g s (v + 1) := by
  unfold nxtJ
  rw [List.take_of_length_le (by omega)]
  simp [nxtV, List.range_succ, hb]
theorem nxtV_lt {g : Gph} (hg : Val g) (s z : Nat) : nxtV g s z < 2 ^ g.length := by
  refine foldl_lt (fun a v _ ha => ?_) (Nat.pow_pos (by omega))
  split
  · refine foldl_lt (fun b w hw hb => ?_) ha
    have := (hg.mem hw).2
    exact or_lt hb (one_lt (by omega))
  · exact ha
theorem nxtJ_lt {g : Gph} (hg : Val g) (s v j : Nat) : nxtJ g s v j < 2 ^ g.length := by
  refine foldl_lt (fun b w hw hb => ?_) (nxtV_lt hg s v)
  have := (hg.mem (List.mem_of_mem_take hw)).2
  exact or_lt hb (one_lt (by omega))
theorem atK_lt {g : Gph} (hg : Val g) {s : Nat} (hs : s < 2 ^ g.length) : ∀ k, atK g s k < 2 ^ g.length
  | 0 => hs
  | k + 1 => nxt_lt hg _
theorem put64 {a : Nat} {w : Int} (ha : a < 2 ^ 32) (w0 : 0 ≤ w) (w1 : w < 32) : IntKind.u64.wrap ((BitVec.ofInt IntKind.u64.bits (a : Int) ||| BitVec.ofInt IntKind.u64.bits (IntKind.u64.wrap (1 * 2 ^ (min (IntKind.u64.wrap w).toNat IntKind.u64.bits)))).toNat : Int) = ((a ||| 1 <<< w.toNat : Nat) : Int) := by
  obtain ⟨n, rfl⟩ := Int.eq_ofNat_of_zero_le w0
  have hn : n < 32 := by omega
  have h1 := one64 hn
  rw [h1, Int.toNat_natCast, or64 (Nat.lt_trans ha (by decide)) (Nat.lt_trans (one_lt32 hn) (by decide))]

/-! ### Parts, node by node -/
def seenK (g : Gph) : Nat → Nat
  | 0 => 0
  | k + 1 => if (seenK g k).testBit k then seenK g k else seenK g k ||| scc g k
def headsK (g : Gph) (k : Nat) : List Nat := (List.range k).filter fun v => (List.range v).all fun u => !(scc g v).testBit u
def partsK (g : Gph) (k : Nat) : List Int := (headsK g k).map fun v => (scc g v : Int)
theorem partsK_zero (g : Gph) : partsK g 0 = [] := rfl
theorem partsK_end {g : Gph} {k : Nat} (h : k = g.length) : partsK g k = partsG g := by subst h; rfl
theorem scc_sym {g : Gph} (hg : Val g) {u v : Nat} (hu : u < g.length) (hv : v < g.length) : (scc g u).testBit v = (scc g v).testBit u := by
  rw [Bool.eq_iff_iff, scc_bit hg hu, scc_bit hg hv]; exact And.comm
theorem seen_bit {g : Gph} (hg : Val g) : ∀ {k i : Nat}, k ≤ g.length → ((seenK g k).testBit i = true ↔ ∃ u, u < k ∧ (scc g u).testBit i = true)
  | 0, i, _ => by simp [seenK]
  | k + 1, i, hk => by
    have ih := fun i => seen_bit hg (k := k) (i := i) (by omega)
    by_cases hb : (seenK g k).testBit k = true
    · rw [show seenK g (k + 1) = seenK g k by simp [seenK, hb], ih]
      refine ⟨fun ⟨u, h1, h2⟩ => ⟨u, by omega, h2⟩, fun ⟨u, h1, h2⟩ => ?_⟩
      rcases Nat.lt_succ_iff_lt_or_eq.1 h1 with h1 | h1
      · exact ⟨u, h1, h2⟩
      · subst h1
        obtain ⟨t, h3, h4⟩ := (ih u).1 hb
        exact ⟨t, h3, by rw [(scc_of hg (by omega) h4).2]; exact h2⟩
    · rw [show seenK g (k + 1) = seenK g k ||| scc g k by simp [seenK, hb], Nat.testBit_or, Bool.or_eq_true, ih]
      constructor
      · rintro (⟨u, h1, h2⟩ | h2)
        · exact ⟨u, by omega, h2⟩
        · exact ⟨k, by omega, h2⟩
      · rintro ⟨u, h1, h2⟩
        rcases Nat.lt_succ_iff_lt_or_eq.1 h1 with h1 | h1
        · exact .inl ⟨u, h1, h2⟩
        · subst h1; exact .inr h2
theorem seen_head {g : Gph} (hg : Val g) {k : Nat} (hk : k < g.length) : ((List.range k).all fun u => !(scc g k).testBit u) = !(seenK g k).testBit k := by
  rw [Bool.eq_iff_iff, List.all_eq_true]
  simp only [List.mem_range, Bool.not_eq_true']
  constructor
  · intro h
    cases hb : (seenK g k).testBit k with
    | false => rfl
    | true =>
      obtain ⟨u, h1, h2⟩ := (seen_bit hg (by omega)).1 hb
      rw [scc_sym hg (by omega) hk, h u h1] at h2; cases h2
  · intro h u hu
    cases hb : (scc g k).testBit u with
    | false => rfl
    | true =>
      have := (seen_bit hg (k := k) (i := k) (by omega)).2 ⟨u, hu, by rw [scc_sym hg (by omega) hk]; exact hb⟩
      rw [h] at this; cases this
theorem parts_t {g : Gph} (hg : Val g) {k : Nat} (hk : k < g.length) (h : (seenK g k).testBit k = false) : partsK g (k + 1) = partsK g k ++ [(scc g k : Int)] ∧ seenK g (k + 1) = seenK g k ||| scc g k := by
  refine ⟨?_, by simp [seenK, h]⟩
  unfold partsK headsK
  rw [List.range_succ, List.filter_append, List.filter_cons, seen_head hg hk, h]
  simp
theorem parts_f {g : Gph} (hg : Val g) {k : Nat} (hk : k < g.length) (h : (seenK g k).testBit k = true) : partsK g (k + 1) = partsK g k ∧ seenK g (k + 1) = seenK g k := by
  refine ⟨?_, by simp [seenK, h]⟩
  unfold partsK headsK
  rw [List.range_succ, List.filter_append, List.filter_cons, seen_head hg hk, h]
  simp
theorem seen_lt {g : Gph} (hg : Val g) : ∀ {k : Nat}, k ≤ g.length → seenK g k < 2 ^ g.length
  | 0, _ => Nat.pow_pos (by omega)
  | k + 1, hk => by
    have ih := seen_lt hg (k := k) (by omega)
    show (if _ then _ else _) < _
    split
    · exact ih
    · exact or_lt ih (scc_lt hg (by omega))
theorem partsK_len (g : Gph) (k : Nat) : (partsK g k).length ≤ k := by
  unfold partsK headsK
  rw [List.length_map]
  refine Nat.le_trans (List.length_filter_le _ _) ?_
  simp

/-! ### Bottom parts -/
def isBot (g : Gph) (p : Int) : Bool := decide ((reach g p.toNat : Int) = p)
def botG (g : Gph) : List Int := (partsG g).filter (isBot g)
theorem filter_t {p : Int → Bool} {l : List Int} {k : Nat} (hk : k < l.length) (h : p (gi l k) = true) : (l.take (k + 1)).filter p = (l.take k).filter p ++ [gi l k] := by
  rw [take_snoc hk, List.filter_append, ← gi_at hk, List.filter_cons, h]; simp
theorem filter_f {p : Int → Bool} {l : List Int} {k : Nat} (hk : k < l.length) (h : p (gi l k) = false) : (l.take (k + 1)).filter p = (l.take k).filter p := by
  rw [take_snoc hk, List.filter_append, ← gi_at hk, List.filter_cons, h]; simp
theorem filter_end {p : Int → Bool} {l : List Int} {k : Nat} (hk : ¬ k < l.length) : (l.take k).filter p = l.filter p := by rw [List.take_of_length_le (by omega)]
theorem filter_len {p : Int → Bool} {l : List Int} {k : Nat} : ((l.take k).filter p).length ≤ l.length := by
  refine Nat.le_trans (List.length_filter_le _ _) ?_
  simp; omega
theorem part_at {g : Gph} (hg : Val g) {k : Nat} (hk : k < (partsG g).length) : ∃ m : Nat, gi (partsG g) k = m ∧ m < 2 ^ g.length ∧ ∃ r, r < g.length ∧ m = scc g r := by
  obtain ⟨r, hr, h⟩ := (mem_parts hg).1 (gi_mem hk)
  exact ⟨scc g r, h, scc_lt hg hr, r, hr, rfl⟩

/-- Does no edge lead out? -/
def closedB (g : Gph) (p : Nat) : Bool := (nodesL p).all fun v => (row g v).all fun w => p.testBit w.toNat
theorem closed_bot {g : Gph} (hg : Val g) {r : Nat} (hr : r < g.length) : closedB g (scc g r) = isBot g (scc g r : Int) := by
  have hlt := scc_lt hg hr
  have h64 := scc_64 hg hr
  unfold isBot
  rw [Int.toNat_natCast, Bool.eq_iff_iff, decide_eq_true_eq, closedB, List.all_eq_true]
  simp only [List.all_eq_true]
  have hsub : ∀ i, (scc g r).testBit i = true → (reach g (scc g r)).testBit i = true := fun i hi => (reach_bit hg hlt).2 ⟨i, hi, .refl i⟩
  constructor
  · intro h
    congr 1
    refine Nat.eq_of_testBit_eq fun i => ?_
    rw [Bool.eq_iff_iff]
    refine ⟨fun hi => ?_, hsub i⟩
    obtain ⟨v, hv, hR⟩ := (reach_bit hg hlt).1 hi
    refine R.closed (p := fun w => (scc g r).testBit w = true) (fun a b ha hab => ?_) hv hR
    have := h a ((nodesL_mem h64).2 ha) _ hab
    simpa using this
  · intro h v hv w hw
    have hv' := (nodesL_mem h64).1 hv
    have hw' := hg.mem hw
    have : (reach g (scc g r)).testBit w.toNat = true := (reach_bit hg hlt).2 ⟨v, hv', R.one (E_of hw hw'.2.1)⟩
    rw [show reach g (scc g r) = scc g r by omega] at this
    exact this

def rowIn (g : Gph) (p v : Nat) : Bool := (row g v).all fun w => p.testBit w.toNat
theorem closed_eq (g : Gph) (p : Nat) : closedB g p = (nodesL p).all (rowIn g p) := rfl
theorem rowIn_snoc {g : Gph} {p v j : Nat} (h : j < (row g v).length) : ((row g v).take (j + 1)).all (fun w => p.testBit w.toNat) = (((row g v).take j).all (fun w => p.testBit w.toNat) && p.testBit (gi (row g v) j).toNat) := by
  rw [take_snoc h, List.all_append, gi_at h]; simp
theorem rowIn_end {g : Gph} {p v j : Nat} (h : ¬ j < (row g v).length) : ((row g v).take j).all (fun w => p.testBit w.toNat) = rowIn g p v := by
  rw [List.take_of_length_le (by omega)]; rfl
theorem rowIn_bad {g : Gph} {p v j : Nat} (h : j < (row g v).length) (hb : p.testBit (gi (row g v) j).toNat = false) : rowIn g p v = false := by
  cases hr : rowIn g p v with
  | false => rfl
  | true => rw [List.all_eq_true.1 hr _ (gi_mem h)] at hb; cases hb
theorem nodes_in_snoc {g : Gph} {p k : Nat} (hp : p < 2 ^ 64) (hk : k < (nodesL p).length) : ((nodesL p).take (k + 1)).all (rowIn g p) = (((nodesL p).take k).all (rowIn g p) && rowIn g p (Lib.ctz 64 (rst p k))) := by
  rw [take_snoc hk, List.all_append, (nodesL_at hp hk).1]; simp
theorem nodes_in_bad {g : Gph} {p k : Nat} (hp : p < 2 ^ 64) (hk : k < (nodesL p).length) (hb : rowIn g p (Lib.ctz 64 (rst p k)) = false) : closedB g p = false := by
  cases hr : closedB g p with
  | false => rfl
  | true =>
    have := List.all_eq_true.1 hr _ (List.getElem_mem hk)
    rw [(nodesL_at hp hk).1] at this
    rw [show (row g (Lib.ctz 64 (rst p k))).all (fun w => p.testBit w.toNat) = rowIn g p (Lib.ctz 64 (rst p k)) from rfl, hb] at this
    cases this
theorem bot_closed {g : Gph} (hg : Val g) : (partsG g).filter (fun x => closedB g x.toNat) = botG g := by
  refine List.filter_congr fun x hx => ?_
  obtain ⟨r, hr, rfl⟩ := (mem_parts hg).1 hx
  rw [Int.toNat_natCast, closed_bot hg hr]

theorem bit_p {p : Int} (hp : U64 p) {v : Nat} (hv : v ≤ 64) : IntKind.u64.wrap ((BitVec.ofInt IntKind.u64.bits (p.fdiv (2 ^ (min v IntKind.u64.bits))) &&& BitVec.ofInt IntKind.u64.bits 1).toNat : Int) = if p.toNat.testBit v = true then 1 else 0 := by
  obtain ⟨m, rfl, hm⟩ := hp.nat
  rw [Int.toNat_natCast]
  exact bit64 hm hv
theorem bit_p0 {p : Int} (hp : U64 p) {v : Nat} (hv : v ≤ 64) (h : IntKind.u64.wrap ((BitVec.ofInt IntKind.u64.bits (p.fdiv (2 ^ (min v IntKind.u64.bits))) &&& BitVec.ofInt IntKind.u64.bits 1).toNat : Int) = 0) : p.toNat.testBit v = false := by
  rw [bit_p hp hv] at h
  cases hb : p.toNat.testBit v with
  | false => rfl
  | true => rw [hb] at h; simp at h
theorem bit_p1 {p : Int} (hp : U64 p) {v : Nat} (hv : v ≤ 64) (h : IntKind.u64.wrap ((BitVec.ofInt IntKind.u64.bits (p.fdiv (2 ^ (min v IntKind.u64.bits))) &&& BitVec.ofInt IntKind.u64.bits 1).toNat : Int) ≠ 0) : p.toNat.testBit v = true := by
  rw [bit_p hp hv] at h
  cases hb : p.toNat.testBit v with
  | true => rfl
  | false => rw [hb] at h; simp at h

/-! ### Orders -/
theorem bits_of {l : List Nat} {v : Nat} : (setOf l).testBit v = l.contains v := by
  rw [setOf_bit, List.contains_eq_mem]
def leastD (g : Gph) (l : List Nat) (z : Nat) : Int := match ((List.range g.length).drop z).find? (ready g l) with
  | some v => (v : Int)
  | none => -1
theorem least_end {g : Gph} {l : List Nat} {z : Nat} (h : ¬ z < g.length) : leastD g l z = -1 := by
  unfold leastD; rw [List.drop_of_length_le (by simp; omega)]; rfl
theorem drop_range {n z : Nat} (h : z < n) : (List.range n).drop z = z :: (List.range n).drop (z + 1) := by
  rw [List.drop_eq_getElem_cons (by simpa using h)]; simp
theorem least_t {g : Gph} {l : List Nat} {z : Nat} (h : z < g.length) (hr : ready g l z = true) : leastD g l z = (z : Int) := by
  unfold leastD; rw [drop_range h, List.find?_cons, hr]
theorem least_f {g : Gph} {l : List Nat} {z : Nat} (h : z < g.length) (hr : ready g l z = false) : leastD g l z = leastD g l (z + 1) := by
  unfold leastD; rw [drop_range h, List.find?_cons, hr]
theorem least_none {g : Gph} {l : List Nat} (h : leastD g l 0 < 0) : pickG g l = none := by
  unfold leastD at h
  rw [List.drop_zero] at h
  show (List.range g.length).find? (ready g l) = none
  cases hf : (List.range g.length).find? (ready g l) with
  | none => rfl
  | some v => rw [hf] at h; simp only at h; omega
theorem least_some {g : Gph} {l : List Nat} (h : ¬ leastD g l 0 < 0) : ∃ x : Nat, pickG g l = some x ∧ leastD g l 0 = x := by
  unfold leastD at h ⊢
  rw [List.drop_zero] at h ⊢
  cases hf : (List.range g.length).find? (ready g l) with
  | none => rw [hf] at h; simp only at h; omega
  | some v => exact ⟨v, hf, rfl⟩
def readyW (g : Gph) (l : List Nat) (v z : Nat) : Bool := !l.contains v && (List.range z).all fun u => l.contains u || !(row g u).contains (v : Int)
theorem readyW_zero (g : Gph) (l : List Nat) (v : Nat) : readyW g l v 0 = !l.contains v := by simp [readyW]
theorem readyW_end {g : Gph} {l : List Nat} {v z : Nat} (h : z = g.length) : readyW g l v z = ready g l v := by subst h; rfl
theorem readyW_succ (g : Gph) (l : List Nat) (v z : Nat) : readyW g l v (z + 1) = (readyW g l v z && (l.contains z || !(row g z).contains (v : Int))) := by
  unfold readyW
  rw [List.range_succ, List.all_append, ← Bool.and_assoc]
  simp
def ordB (g : Gph) : Bool := (ordG g).isSome

theorem ordB_stuck {g : Gph} {l : List Nat} (hl : grd g l.length = some l) (hn : l.length < g.length) (hp : pickG g l = none) : ordB g = false := by
  have h1 : grd g (l.length + 1) = none := by simp [grd, hl, hp]
  have h2 : ordG g = none := by
    have := grd_none (g.length - (l.length + 1)) h1
    rwa [show l.length + 1 + (g.length - (l.length + 1)) = g.length by omega] at this
  simp [ordB, h2]
theorem ordB_done {g : Gph} {l : List Nat} (hl : grd g l.length = some l) (hn : l.length = g.length) : ordB g = true := by
  have h2 : ordG g = some l := by rw [ordG, ← hn, hl]
  simp [ordB, h2]
theorem setOf_put {l : List Nat} {x n : Nat} (hl : setOf l < 2 ^ n) (hn : n ≤ 32) (hx : x < 32) : IntKind.u64.wrap ((BitVec.ofInt IntKind.u64.bits (setOf l : Int) ||| BitVec.ofInt IntKind.u64.bits (IntKind.u64.wrap (1 * 2 ^ (min (IntKind.u64.wrap (x : Int)).toNat IntKind.u64.bits)))).toNat : Int) = (setOf (l ++ [x]) : Int) := by
  rw [setOf_snoc]
  exact put64 (w := (x : Int)) (Nat.lt_of_lt_of_le hl (Nat.pow_le_pow_right (by decide) hn)) (by omega) (by omega)

/-! ### A few nodes and edges -/
def fewG (g : Gph) : Gph := (g.take 33).map fun r => r.take 33
theorem fewK_succ {g : Gph} {k : Nat} (h : k < g.length) : ((g.take (k + 1)).map fun r => r.take 33) = ((g.take k).map fun r => r.take 33) ++ [(row' g k).take 33] := by
  rw [take_snoc h, List.map_append, row_at h]; rfl
/-! ### Is it a graph? -/
theorem last_row {n : Nat} {l : List Int} {j : Nat} (hj : j < l.length) (h : okRow n (-1) (l.take (j + 1)) = true) : 0 ≤ gi l j := by
  have := okRow_mem h (gi l j) (by rw [take_snoc hj, gi_at hj]; exact List.mem_append_right _ (List.mem_singleton.2 rfl))
  omega
theorem row_test {n : Nat} {l : List Int} {j : Nat} {x : Int} (hj : j < l.length) (hl : l.length ≤ 1000000) (h : okRow n (-1) (l.take j) = true) :
    (decide (x < 0) || decide ((n : Int) ≤ x) || decide (0 < (j : Int)) && decide (x ≤ nth (.int .i64) l (IntKind.i64.wrap ((j : Int) - 1)))) = decide (x ≤ (l.take j).getLastD (-1) ∨ (n : Int) ≤ x) := by
  cases j with
  | zero =>
    have e : (l.take 0).getLastD (-1) = -1 := rfl
    rw [e, Bool.eq_iff_iff]
    simp
    omega
  | succ m =>
    have e : nth (.int .i64) l (IntKind.i64.wrap (((m + 1 : Nat) : Int) - 1)) = gi l m := by
      rw [wi (by omega) (by omega), show ((m + 1 : Nat) : Int) - 1 = (m : Int) by omega, nth_gi]
    have h0 := last_row (j := m) (by omega) h
    rw [e, lastD_snoc (by omega), Bool.eq_iff_iff]
    simp
    omega
theorem idx_back {j n : Nat} (h : (0 : Int) < j) (hj : j < n) (hn : n ≤ 1000000) : 0 ≤ IntKind.i64.wrap ((j : Int) - 1) ∧ IntKind.i64.wrap ((j : Int) - 1) < (n : Int) := by
  rw [wi (by omega) (by omega)]; omega
theorem few_cut {α : Type} (l : List α) : List.drop (Int.toNat 0) (List.take (Int.toNat (min (l.length : Int) 33)) l) = l.take 33 := by
  rw [show Int.toNat 0 = 0 from rfl, List.drop_zero]
  by_cases h : l.length ≤ 33
  · rw [show Int.toNat (min (l.length : Int) 33) = l.length by omega, List.take_of_length_le (Nat.le_refl _), List.take_of_length_le h]
  · rw [show Int.toNat (min (l.length : Int) 33) = 33 by omega]
theorem few_at {g : Gph} {k : Nat} (h : k < (g.take 33).length) : row' (g.take 33) k = row' g k := by
  have h1 : k < 33 := by rw [List.length_take] at h; omega
  unfold row'
  rw [List.getD_eq_getElem?_getD, List.getD_eq_getElem?_getD, List.getElem?_take, if_pos h1]
theorem few_end {g : Gph} {k : Nat} (h : k ≤ (g.take 33).length) (h2 : ¬ k < (g.take 33).length) : (g.take k).map (fun r => r.take 33) = fewG g := by
  have e : k = (g.take 33).length := by omega
  have e2 : g.take (g.take 33).length = g.take 33 := by
    rw [List.length_take]
    by_cases h3 : 33 ≤ g.length
    · rw [Nat.min_eq_left h3]
    · rw [Nat.min_eq_right (by omega), List.take_of_length_le (Nat.le_refl _), List.take_of_length_le (by omega)]
  rw [e, e2]; rfl
end Go.Cm.Gr
end

section
/- Drafts of graphs. No program is in sight. -/
namespace Go.Cm.Gr
open Go.Cm

abbrev Dft := Int × List (List Int) × Bool
def dN (d : Dft) : Nat := 1 + d.1.toNat % 10
def hitE (d : Dft) (v w : Nat) (e : List Int) : Bool := !(d.2.2 && decide ((gi e 0).toNat % dN d ≤ (gi e 1).toNat % dN d)) && (decide ((gi e 0).toNat % dN d = v) && decide ((gi e 1).toNat % dN d = w))
def hasD (d : Dft) (v w : Nat) : Bool := (d.2.1.take 40).any (hitE d v w)
def rwD (d : Dft) (v w : Nat) : List Int := ((List.range w).filter (hasD d v)).map Int.ofNat
def rowD (d : Dft) (v : Nat) : List Int := rwD d v (dN d)
def gD (d : Dft) : Gph := (List.range (dN d)).map (rowD d)
def drVW (d : Dft) (v w : Nat) : Gph := (List.range (dN d)).map fun u => if u < v then rowD d u else if u = v then rwD d v w else []

def Dok (d : Dft) : Prop := (0 ≤ d.1 ∧ d.1 < 256) ∧ ∀ e ∈ d.2.1, e.length = 2 ∧ ∀ x ∈ e, 0 ≤ x ∧ x < 256

theorem dN_lim (d : Dft) : 1 ≤ dN d ∧ dN d ≤ 10 := by unfold dN; omega
theorem dr_len (d : Dft) (v w : Nat) : (drVW d v w).length = dN d := by simp [drVW]
theorem gD_len (d : Dft) : (gD d).length = dN d := by simp [gD]
theorem getD_map {n : Nat} {f : Nat → List Int} {i : Nat} (h : i < n) : ((List.range n).map f).getD i [] = f i := by
  simp [List.getD_eq_getElem?_getD, h]
theorem dr_at {d : Dft} {v w u : Nat} (h : u < dN d) : (drVW d v w).getD u [] = if u < v then rowD d u else if u = v then rwD d v w else [] := getD_map h
theorem gph_ext {n : Nat} {f h : Nat → List Int} (e : ∀ u, u < n → f u = h u) : (List.range n).map f = (List.range n).map h := List.map_congr_left fun u hu => e u (by simpa using hu)
theorem dr_first (d : Dft) : drVW d 0 0 = List.replicate (dN d) [] := by
  unfold drVW
  rw [List.map_congr_left (g := fun _ => ([] : List Int)) (fun u _ => by rw [if_neg (by omega)]; split <;> rfl), List.map_const', List.length_range]
theorem dr_next {d : Dft} {v w : Nat} (h : ¬ w < dN d) (h2 : w ≤ dN d) : drVW d v w = drVW d (v + 1) 0 := gph_ext fun u hu => by
  have hw : w = dN d := by omega
  by_cases h1 : u < v
  · rw [if_pos h1, if_pos (by omega)]
  · rw [if_neg h1]
    by_cases h3 : u = v
    · rw [if_pos h3, if_pos (by omega), hw, h3]; rfl
    · rw [if_neg h3, if_neg (by omega)]
      split <;> rfl
theorem dr_end {d : Dft} {v : Nat} (h : ¬ v < dN d) : drVW d v 0 = gD d := gph_ext fun u hu => by rw [if_pos (by omega)]
theorem rwD_succ (d : Dft) (v w : Nat) : rwD d v (w + 1) = if hasD d v w = true then rwD d v w ++ [(w : Int)] else rwD d v w := by
  unfold rwD
  rw [List.range_succ, List.filter_append, List.filter_cons]
  split <;> simp
theorem dr_f {d : Dft} {v w : Nat} (h : hasD d v w = false) : drVW d v (w + 1) = drVW d v w := gph_ext fun u hu => by
  rw [rwD_succ, h]; simp
theorem dr_t {d : Dft} {v w : Nat} (hv : v < dN d) (h : hasD d v w = true) : push (drVW d v w) v (w : Int) = drVW d v (w + 1) := by
  refine List.ext_getElem (by rw [push_len, dr_len, dr_len]) fun i h1 h2 => ?_
  rw [push_len, dr_len] at h1
  have e1 : (push (drVW d v w) v (w : Int))[i]'(by rw [push_len, dr_len]; exact h1) = (push (drVW d v w) v (w : Int)).getD i [] := by
    rw [List.getD_eq_getElem?_getD, List.getElem?_eq_getElem]; rfl
  have e2 : (drVW d v (w + 1))[i]'(by rw [dr_len]; exact h1) = (drVW d v (w + 1)).getD i [] := by
    rw [List.getD_eq_getElem?_getD, List.getElem?_eq_getElem]; rfl
  rw [e1, e2, push_at (by rw [dr_len]; exact hv), dr_at h1, dr_at h1, rwD_succ, h]
  by_cases h3 : v = i
  · subst h3; simp
  · have h4 : ¬ i = v := fun e => h3 e.symm
    simp [h3, h4]
theorem rwD_len (d : Dft) (v w : Nat) : (rwD d v w).length ≤ w := by
  unfold rwD
  rw [List.length_map]
  refine Nat.le_trans (List.length_filter_le _ _) ?_
  simp
theorem dr_row {d : Dft} {v w u : Nat} (hw : w ≤ 10) : ((drVW d v w).getD u []).length ≤ 100 := by
  have h0 := dN_lim d
  by_cases hu : u < dN d
  · rw [dr_at hu]
    have h1 := rwD_len d u (dN d)
    have h2 := rwD_len d v w
    unfold rowD
    split
    · omega
    · split
      · omega
      · simp
  · rw [List.getD_eq_getElem?_getD, List.getElem?_eq_none (by rw [dr_len]; omega)]; simp

/-! what the program reckons -/
theorem n_is {d : Dft} (h : Dok d) : IntKind.i64.wrap (1 + IntKind.i64.wrap (d.1.tmod 10)) = (dN d : Int) := by
  obtain ⟨m, hm⟩ := Int.eq_ofNat_of_zero_le h.1.1
  have := h.1.2
  unfold dN
  rw [hm]
  have e : ((m : Int)).tmod 10 = ((m % 10 : Nat) : Int) := by rw [Int.tmod_eq_emod_of_nonneg (by omega)]; simp
  rw [e, wi (x := ((m % 10 : Nat) : Int)) (by omega) (by omega), wi (by omega) (by omega)]
  simp
theorem rem_is {x : Int} {n : Nat} (h0 : 0 ≤ x) (h1 : x < 256) : (IntKind.i64.wrap x).tmod (n : Int) = ((x.toNat % n : Nat) : Int) := by
  obtain ⟨m, rfl⟩ := Int.eq_ofNat_of_zero_le h0
  rw [wi (by omega) (by omega), Int.tmod_eq_emod_of_nonneg (by omega)]
  simp
theorem draft_val (d : Dft) : Val (gD d) where
  one := by rw [gD_len]; exact (dN_lim d).1
  most := by rw [gD_len]; have := (dN_lim d).2; omega
  rows := fun r hr => by
    obtain ⟨v, _, rfl⟩ := List.mem_map.1 hr
    rw [gD_len]
    refine okRow_of ?_ fun w hw => ?_
    · unfold rowD rwD
      rw [List.pairwise_map]
      exact ((range_up _).filter _).imp fun {a b} h => by simpa using h
    · obtain ⟨x, hx, rfl⟩ := List.mem_map.1 hw
      have := List.mem_range.1 (List.mem_filter.1 hx).1
      simp; omega
theorem hit_none {d : Dft} {v w : Nat} (h : ∀ i, i < d.2.1.length → i < 40 → hitE d v w (d.2.1.getD i []) = false) : hasD d v w = false := by
  cases hb : hasD d v w with
  | false => rfl
  | true =>
    obtain ⟨e, he, h1⟩ := List.any_eq_true.1 hb
    obtain ⟨i, hi, rfl⟩ := List.mem_iff_getElem.1 he
    rw [List.length_take] at hi
    have h2 := h i (by omega) (by omega)
    rw [List.getD_eq_getElem?_getD, List.getElem?_eq_getElem (by omega)] at h2
    rw [List.getElem_take] at h1
    rw [show (some (d.2.1[i]'(by omega))).getD [] = d.2.1[i]'(by omega) from rfl, h1] at h2
    cases h2
theorem hit_some {d : Dft} {v w i : Nat} (hi : i < d.2.1.length) (h4 : i < 40) (h : hitE d v w (d.2.1.getD i []) = true) : hasD d v w = true := by
  refine List.any_eq_true.2 ⟨d.2.1.getD i [], ?_, h⟩
  rw [List.getD_eq_getElem?_getD, List.getElem?_eq_getElem hi]
  refine List.mem_iff_getElem.2 ⟨i, by rw [List.length_take]; omega, ?_⟩
  rw [List.getElem_take]; rfl
theorem edge_at {d : Dft} (h : Dok d) {i : Nat} (hi : i < d.2.1.length) (j : Nat) (hj : j < 2) : (IntKind.i64.wrap (nth (.int .u8) (nth (.arr 2 (.int .u8)) d.2.1 (i : Int)) (j : Int))).tmod (dN d : Int) = (((gi (d.2.1.getD i []) j).toNat % dN d : Nat) : Int) := by
  have hm : d.2.1.getD i [] ∈ d.2.1 := by
    rw [List.getD_eq_getElem?_getD, List.getElem?_eq_getElem hi]; exact List.getElem_mem hi
  obtain ⟨hl, hx⟩ := h.2 _ hm
  have e : nth (.int .u8) (nth (.arr 2 (.int .u8)) d.2.1 (i : Int)) (j : Int) = gi (d.2.1.getD i []) j := by
    have : nth (.arr 2 (.int .u8)) d.2.1 (i : Int) = d.2.1.getD i [] := by
      show d.2.1.getD i _ = _
      rw [List.getD_eq_getElem?_getD, List.getD_eq_getElem?_getD, List.getElem?_eq_getElem hi]; rfl
    rw [this]; rfl
  rw [e]
  have := hx _ (gi_mem (l := d.2.1.getD i []) (k := j) (by omega))
  exact rem_is this.1 this.2
theorem edge_0 {d : Dft} (h : Dok d) {i : Nat} (hi : i < d.2.1.length) : (IntKind.i64.wrap (nth (.int .u8) (nth (.arr 2 (.int .u8)) d.2.1 (i : Int)) 0)).tmod (dN d : Int) = (((gi (d.2.1.getD i []) 0).toNat % dN d : Nat) : Int) := edge_at h hi 0 (by decide)
theorem edge_1 {d : Dft} (h : Dok d) {i : Nat} (hi : i < d.2.1.length) : (IntKind.i64.wrap (nth (.int .u8) (nth (.arr 2 (.int .u8)) d.2.1 (i : Int)) 1)).tmod (dN d : Int) = (((gi (d.2.1.getD i []) 1).toNat % dN d : Nat) : Int) := edge_at h hi 1 (by decide)
theorem hit_f1 {d : Dft} {v w : Nat} {e : List Int} (h1 : d.2.2 = true) (h2 : (gi e 0).toNat % dN d ≤ (gi e 1).toNat % dN d) : hitE d v w e = false := by
  simp [hitE, h1, h2]
theorem hit_t {d : Dft} {v w : Nat} {e : List Int} (h1 : d.2.2 = true → ¬ (gi e 0).toNat % dN d ≤ (gi e 1).toNat % dN d) (h2 : (gi e 0).toNat % dN d = v) (h3 : (gi e 1).toNat % dN d = w) : hitE d v w e = true := by
  unfold hitE
  cases hd : d.2.2 with
  | false => simp [h2, h3]
  | true => have := h1 hd; simp [h2, h3] at this ⊢; omega
theorem hit_f2 {d : Dft} {v w : Nat} {e : List Int} (h : (gi e 0).toNat % dN d = v → (gi e 1).toNat % dN d ≠ w) : hitE d v w e = false := by
  unfold hitE
  by_cases h1 : (gi e 0).toNat % dN d = v
  · have := h h1; simp [this]
  · simp [h1]
theorem hits_snoc {d : Dft} {v w i : Nat} (h : ∀ j, j < i → hitE d v w (d.2.1.getD j []) = false) (hi : hitE d v w (d.2.1.getD i []) = false) : ∀ j, j < i + 1 → hitE d v w (d.2.1.getD j []) = false := fun j hj => by
  rcases Nat.lt_succ_iff_lt_or_eq.1 hj with hj | hj
  · exact h j hj
  · subst hj; exact hi
end Go.Cm.Gr
end

section
/- The library's count of trailing zeros meets a contract of ours. -/
namespace Go.Proofs
open Go.RowKit Go.Cm Go.Shelf

def Tryd.lays22_ren : Go.Shelf.Ren := ⟨fun | 29 => 22 | n => n, fun | 22 => 29 | 25 => 84 | 54 => 83 | n => n, fun | 1 => 0 | n => n⟩
theorem Tryd.lays22 : Lays7.n29 Tryd.prog Tryd.lays22_ren := {
  mixed := by kernel_rfl
  f29 := Tryd.func22.trans (congrArg some (by kernel_rfl))
  t0 := Tryd.underlying0
  a0 := Tryd.isAgg0
  z0 := Tryd.sizeOf0
  v0 := Tryd.zeroValue0
  i0 := by kernel_rfl
  t3 := Tryd.underlying3
  a3 := Tryd.isAgg3
  z3 := Tryd.sizeOf3
  v3 := Tryd.zeroValue3
  i3 := by kernel_rfl
  t4 := Tryd.underlying4
  a4 := Tryd.isAgg4
  z4 := Tryd.sizeOf4
  v4 := Tryd.zeroValue4
  i4 := by kernel_rfl
  t5 := Tryd.underlying5
  a5 := Tryd.isAgg5
  z5 := Tryd.sizeOf5
  v5 := Tryd.zeroValue5
  i5 := by kernel_rfl
  t22 := Tryd.underlying29
  a22 := Tryd.isAgg29
  z22 := Tryd.sizeOf29
  v22 := Tryd.zeroValue29
  i22 := by kernel_rfl
  t25 := Tryd.underlying84
  a25 := Tryd.isAgg84
  z25 := Tryd.sizeOf84
  v25 := Tryd.zeroValue84
  i25 := by kernel_rfl
  t54 := Tryd.underlying83
  a54 := Tryd.isAgg83
  z54 := Tryd.sizeOf83
  g1 := by kernel_rfl }

/-- The library's table stands in its variable. -/
def CtzTab (w : World) : Prop := TabAt 0 Lib.deBruijn64tab w
/-- What lies below holds the tables. -/
def Tabs (B : Base) : Prop := ∀ w, B.On w → CtzTab w

theorem on_below {B : Base} {w w' : World} (h : B.On w) (hb : Below w.heap.size w w') : B.On w' :=
  ⟨Nat.le_trans h.1 hb.size, fun b hbn => (hb.block b (Nat.lt_of_lt_of_le hbn h.1)).trans (h.2 b hbn)⟩

/-- One result of pure data, nothing lent. -/
theorem ret_one {P : Program} {f : FuncId} {vals : Array Value} {w : World} {O : Nat → Prop} {ρ0 : Nat → Value} {v : Value} {t : Ty} {y : t.D} {fr : List Nat} (h : Calls P f vals w fun e w' => e = .returned v ∧ Below w.heap.size w w') (hv : ∀ (H : Nat → Prop) w, RepL H w (fun _ => undef) (.z t y) v) :
    Calls P f vals w fun e w' => ∃ (vs : List Value) (ρ1 : Nat → Value), e = .returned (retV vs) ∧ ([] : List OObj).length = ([] : List OObj).length ∧ Bel (fun b => w.heap.size ≤ b ∨ lentBlk ρ0 [] b) w w' ∧
      (∀ k, ¬ (ioB ≤ k ∧ fr.contains (k - ioB) = true) → ρ1 k = ρ0 k) ∧
      All2 (RepR (hotR (hot O ρ1 (ioList ioB [])) [RV.z t y] vs) w' w.heap.size) [RV.z t y] vs ∧ apartR [RV.z t y] vs ∧
      (∀ p ∈ ioList ioB ([] : List OObj), OwnOK (hotR (hot O ρ1 (ioList ioB [])) [RV.z t y] vs) w' ρ1 (fun b => w.heap.size ≤ b ∨ lentBlk ρ0 [] b) p) ∧
      Apart ρ1 (ioList ioB []) ∧ ∀ b, lentBlk ρ1 [] b → ¬ hotR (fun _ => False) [RV.z t y] vs b :=
  h.mono fun e w' ⟨he, hb⟩ => ⟨[v], ρ0, he, rfl, ⟨hb.os, hb.tape, hb.output, hb.size, fun k hk _ => hb.block k hk⟩, fun _ _ => rfl, ⟨hv _ _, trivial⟩, ⟨fun h => (by cases h), trivial⟩, fun p hp => by simp [ioList] at hp, List.Pairwise.nil, fun b hb => by simp [lentBlk, ioList] at hb⟩

theorem one_val {R : LV → Value → Prop} {x : LV} {vals : Array Value} (h : All2 R [x] vals.toList) : ∃ v, vals = #[v] ∧ R x v := by
  obtain ⟨l⟩ := vals
  match l, h with
  | [v], h => exact ⟨v, rfl, h.1⟩
  | _ :: _ :: _, h => exact h.2.elim

def cCtz : Con := fun l os => match l, os with
  | [.z (.int .u64) x], [] => some (Gr.U64 x, [.z (.int .i64) (Lib.ctz 64 x.toNat : Int)], [])
  | _, _ => none

theorem valid22 {B : Base} (hB : Tabs B) : Valid B Tryd.prog 22 cCtz := by
  intro args os C rs os' hc hC O w vals ρ0 hOn hIo hO hOI hargs hown hap
  unfold cCtz at hc
  split at hc
  case h_2 => cases hc
  cases hc
  obtain ⟨v, rfl, hv⟩ := one_val hargs
  rw [int_val hv]
  rename_i x
  obtain ⟨m, rfl, hm⟩ := Gr.U64.nat hC
  exact ret_one ((Any7.bits_TrailingZeros64 Tryd.lays22 m hm w (fun _ => hB w hOn)).mono fun e w' ⟨he, hw⟩ => ⟨he, by rw [hw]; exact Below.refl _ _⟩) (fun H w => rep_int (ρ := fun _ => undef))

end Go.Proofs
end

section
/- The iterator over a set's nodes; the function that makes it. -/
namespace Go.Proofs
open Go.RowKit Go.Cm Go.Cm.Gr Go.Shelf

attribute [local go_sem] Oper.semAt_some

theorem new42 : NewFn Tryd.prog 42 52 30 (.int .u64) := by
  intro x v H w ρ h
  rw [int_val h]
  have t30 := Tryd.underlying30
  have a30 := Tryd.isAgg30
  have z30 := Tryd.sizeOf30
  have v30 := Tryd.zeroValue30
  go_enter Tryd.func42, Tryd.ntmps42
  go_wp2
  go_ret
  exact ⟨rfl, rfl⟩

def nodeItem (s k : Nat) : List LV := [.z (.int .i64) (Lib.ctz 64 (rst s k) : Int)]
def nodeItems (s : Nat) : List (List LV) := (List.range (nodesL s).length).map (nodeItem s)

theorem turn_cell {W : World} {b : Nat} {v : Value} {o : Obj} (ho : W.heap[b]? = some o) (hc : o.isCells = true) : Turns (fun x => x = b) W (W.setCell ⟨b, 0, none⟩ v) := by
  obtain ⟨hb, e⟩ := Array.getElem?_eq_some_iff.1 ho
  refine ⟨rfl, rfl, rfl, by simp [World.setCell], fun x hx => Below.heap_setCell _ _ _ _ hx, fun x hx => ?_⟩
  subst hx
  cases o <;> first | (cases hc; done) | (simp [World.setCell, Array.getElem?_modify, ho, Obj.isCells])

theorem tab_keep {B : Base} (hB : Tabs B) {Hk : Nat → Prop} {n : Nat} {W W' : World} (hn : B.n ≤ n) (hH : ∀ b, Hk b → B.n ≤ b) (h : CtzTab W) (hk : KpOf Hk n W W') : CtzTab W' := by
  by_cases h0 : B.n = 0
  · exact hB _ ⟨by omega, fun b hb => by omega⟩
  · intro j hj
    have h1 := h j hj
    have h2 := hk 0 (by omega) (fun hh => by have := hH 0 hh; omega) (cells_of_cell h1)
    exact (World.cell?_of_block (a := ⟨0, j, none⟩) h2).trans h1

theorem tab_turn {B : Base} (hB : Tabs B) {b : Nat} {W W' : World} (hb : B.n ≤ b) (h : CtzTab W) (ht : Turns (fun x => x = b) W W') : CtzTab W' := by
  by_cases h0 : B.n = 0
  · exact hB _ ⟨by omega, fun b hb => by omega⟩
  · intro j hj
    exact (World.cell?_of_block (a := ⟨0, j, none⟩) (ht.same 0 (by omega))).trans (h j hj)

set_option maxRecDepth 100000 in
set_option maxHeartbeats 2000000 in
theorem nodes_in (F : Fence) (hF : F = fw none) {B : Base} (hB : Tabs B) {Hk : Nat → Prop} {n : Nat} (hn : B.n ≤ n) (hH : ∀ b, Hk b → B.n ≤ b) (l b s : Nat) (hbn : b < n) (hbH : ¬ Hk b) (hbB : B.n ≤ b) (hs : s < 2 ^ 64) (J : Nat → World → Prop) (Jx : World → Prop) (hJ : ∀ k A B, J k A → Turns (fun x => x = b) A B → J k B)
    (W : World) (hW : W.heap[b]? = some (.cells #[.int .u64 s] 30 (0, 0))) (hT : CtzTab W)
    (hY : ∀ k W1, J k W1 → k < (nodesL s).length → YieldAt F 0 Tryd.prog l #[.int .i64 (Lib.ctz 64 (rst s k))] W1 fun e W' => (e = .returned (.bool true) ∧ J (k + 1) W' ∧ KpOf Hk n W1 W') ∨ (e = .returned (.bool false) ∧ Jx W'))
    (h0 : J 0 W) :
    CallsIn F 1 Tryd.prog 52 #[.func (.yield l) #[] #[], .pointer (some ⟨b, 0, none⟩)] W fun e W' => (∃ v, e = .returned v) ∧ (J (nodesL s).length W' ∨ Jx W') := by
  have t30 := Tryd.underlying30
  have a30 := Tryd.isAgg30
  have z30 := Tryd.sizeOf30
  have v30 := Tryd.zeroValue30
  have e22 : ∀ args w, (callFunc 22 args).run Tryd.prog w = .ok (.enter 22 args) w := enters_of Tryd.func22 (by kernel_rfl) rfl
  have h7 : F.fn 52 := by rw [hF]; trivial
  have h22 : F.fn 22 := by rw [hF]; trivial
  have hro : F.round = none := by rw [hF]; rfl
  have c22 : ∀ n (x : Nat) (hx : x < 2 ^ 64) (w : World), CtzTab w → CallsIn F n Tryd.prog 22 #[.int .u64 x] w fun e w' => e = .returned (.int .i64 (Lib.ctz 64 x)) ∧ w' = w := fun n x hx w h => by rw [hF]; exact calls_fw <| Any7.bits_TrailingZeros64 Tryd.lays22 x hx w (fun _ => h)
  clear hF
  refine callsIn_of_wp Tryd.func52 rfl h7 ?_ hro
  simp only [Tryd.ntmps52, List.size_toArray, List.length_cons, List.length_nil, Nat.reduceAdd, Nat.reduceSub, Array.replicate_succ, Array.replicate_zero, List.push_toArray, List.append_toArray, List.nil_append, List.cons_append]
  gi_wp2
  gi_loopw [] (fun wr => ∃ k : Nat, k ≤ (nodesL s).length ∧ J k wr ∧ wr.heap[b]? = some (.cells #[.int .u64 (rst s k)] 30 (0, 0)) ∧ CtzTab wr)
    (fun wr => match wr.cell? ⟨b, 0, none⟩ with
      | some v => (intOf v).toNat
      | none => 0)
  case atStart => exact ⟨0, Nat.zero_le _, h0, hW, hT⟩
  case round =>
    obtain ⟨k, hk, hJs, hb1, hTk⟩ := hrel
    have hc : wr.cell? ⟨b, 0, none⟩ = some (.int .u64 (rst s k)) := by simp [World.cell?, hb1]
    have c22 := fun n => c22 n (rst s k) (rst_lt hs) wr hTk
    by_cases hlt : k < (nodesL s).length
    · obtain ⟨_, hne⟩ := nodesL_at hs hlt
      have hr1 : (rst s k : Int) ≠ 0 := by omega
      obtain ⟨fn, tmps, assign, body, hy, hR⟩ := hY k wr hJs hlt
      gi_wp2_with (gi_at_call 22; refine (c22 _).mono ?_; rintro e w' ⟨rfl, hw'⟩; rw [hw'])
      refine hR.mono ?_
      rintro e W3 (⟨rfl, hJ3, hk3⟩ | ⟨rfl, hJx3⟩)
      · have hb3 : W3.heap[b]? = some (.cells #[.int .u64 (rst s k)] 30 (0, 0)) := (hk3 b hbn hbH ⟨_, hb1, rfl⟩).trans hb1
        have hc3 : W3.cell? ⟨b, 0, none⟩ = some (.int .u64 (rst s k)) := cell_of_one hb3
        have hT3 : CtzTab W3 := tab_keep hB hn hH hTk hk3
        have hf3 := free_of_one hb3
        have k1 : IntKind.u64.wrap ((rst s k : Int) - 1) = ((rst s k - 1 : Nat) : Int) := by
          have := rst_lt (k := k) hs
          rw [w64 (by omega) (by omega)]; omega
        have k2 : bits BinOp.and IntKind.u64 (rst s k : Int) ((rst s k - 1 : Nat) : Int) = (rst s (k + 1) : Int) := by
          have := rst_lt (k := k) hs
          rw [bits_and_u64_nat _ _ this (by omega), rst_succ]
        gi_wp2
        refine ⟨⟨k + 1, hlt, hJ _ _ _ hJ3 (turn_cell hb3 rfl), one_setCell hb3, tab_turn hB hbB hT3 (turn_cell hb3 rfl)⟩, ?_⟩
        rw [cell_of_one (one_setCell hb3), hc]
        simp only [intOf, Int.toNat_natCast]
        rw [rst_succ]
        exact Nat.lt_of_le_of_lt Nat.and_le_right (by omega)
      · gi_wp2
        refine bodyPost_ret (results_none rfl _ _ _) rfl ?_
        exact ⟨⟨_, rfl⟩, .inr hJx3⟩
    · have hk2 : k = (nodesL s).length := by omega
      have hz : rst s k = 0 := by rw [hk2]; exact (nodeF_eq hs).2
      rw [hk2] at hJs
      rw [hz] at hc hb1
      clear hk2
      gi_wp2
      go_end0
      exact ⟨⟨_, rfl⟩, .inl hJs⟩
theorem seq52 {B : Base} (hB : Tabs B) {s : Int} (hs : U64 s) : SeqValidB B Tryd.prog 52 1 30 [.z (.int .u64) s] (nodeItems s.toNat) := by
  refine ⟨enters_of Tryd.func52 (by kernel_rfl) rfl, ?_, rfl, ?_⟩
  · intro it hit
    obtain ⟨k, _, rfl⟩ := List.mem_map.1 hit
    exact ⟨rfl, rfl⟩
  · intro H Hk w b vs hH hHk hon hbH hbB hh hcs
    obtain ⟨m, rfl, hm⟩ := hs.nat
    rw [Int.toNat_natCast]
    have hlen : (nodeItems m).length = (nodesL m).length := by simp [nodeItems]
    have hv : vs = [.int .u64 (m : Int)] := by
      match vs, hcs with
      | [v], h =>
        rw [int_val h.1.1]
      | _ :: _ :: _, h => exact h.2.elim
    subst hv
    refine ⟨fun k => #[.int .i64 (Lib.ctz 64 (rst m k))], fun k hk => ?_, ?_⟩
    · simp only [nodeItems, List.getElem_map, List.getElem_range]
      exact ⟨rep_int (ρ := fun _ => undef), trivial⟩
    · intro l J Jx W hb _ _ hJE _ hY h0
      rw [hlen] at hY ⊢
      have hbs : b < w.heap.size := (Array.getElem?_eq_some_iff.1 hh).1
      exact nodes_in (fw none) rfl hB (n := w.heap.size) hon.1 (fun x hx => (hHk x hx).2) l b m hbs (fun hx => hbH (hHk b hx).1) hbB hm J Jx hJE W ((hb.block b hbs).trans hh) (hB W (on_below hon hb)) hY h0

end Go.Proofs
end

section
/- The functions of the library that the program calls, under the contracts that the shelf has proved once: laid by the kit's tool. -/
namespace Go.Proofs
open Go.Shelf
def Tryd.lays212_ren : Go.Shelf.Ren := ⟨fun | 212 => 64 | 263 => 70 | 264 => 71 | n => n, fun | 46 => 84 | 51 => 103 | 146 => 112 | 53 => 29 | 148 => 114 | n => n, fun | n => n⟩
theorem Tryd.lays212 : Go.Proofs.Lays.n212 Tryd.prog Tryd.lays212_ren := {
  mixed := by kernel_rfl
  f212 := Tryd.func64.trans (congrArg some (by kernel_rfl))
  f263 := Tryd.func70.trans (congrArg some (by kernel_rfl))
  f264 := Tryd.func71.trans (congrArg some (by kernel_rfl))
  t46 := Tryd.underlying84
  a46 := Tryd.isAgg84
  z46 := Tryd.sizeOf84
  v46 := Tryd.zeroValue84
  t51 := Tryd.underlying103
  a51 := Tryd.isAgg103
  z51 := Tryd.sizeOf103
  v51 := Tryd.zeroValue103
  t53 := Tryd.underlying29
  a53 := Tryd.isAgg29
  z53 := Tryd.sizeOf29
  v53 := Tryd.zeroValue29
  t146 := Tryd.underlying112
  a146 := Tryd.isAgg112
  z146 := Tryd.sizeOf112
  v146 := Tryd.zeroValue112
  t148 := Tryd.underlying114
  a148 := Tryd.isAgg114
  z148 := Tryd.sizeOf114
  v148 := Tryd.zeroValue114 }
open Go.RowKit Go.Lib in
/-- math/bits.Mul: "Mul returns the full-width product of x and y": on a machine of 64 bits: Mul64's. (LAID: no walk: one application.) -/
theorem Tryd.bits_Mul (x y : Nat) (hx : x < 18446744073709551616) (hy : y < 18446744073709551616) (w : World) :
    Calls Tryd.prog 64 #[.int .u64 x, .int .u64 y] w fun e w' => e = .returned (.tuple #[.int .u64 ((x * y / 18446744073709551616 : Nat) : Int), .int .u64 ((x * y % 18446744073709551616 : Nat) : Int)]) ∧ w' = w := Any.bits_Mul Tryd.lays212 x y hx hy w
def Tryd.laysNm215_ren : Go.Shelf.Ren := ⟨fun | 15 => 46 | n => n, fun | 22 => 36 | 3 => 3 | 4 => 4 | n => n, fun | n => n⟩
theorem Tryd.laysNm215 : Go.Proofs.Lays2.n15 Tryd.prog Tryd.laysNm215_ren := {
  mixed := by kernel_rfl
  f15 := Tryd.func46.trans (congrArg some (by kernel_rfl))
  t3 := Tryd.underlying3
  a3 := Tryd.isAgg3
  z3 := Tryd.sizeOf3
  v3 := Tryd.zeroValue3
  t4 := Tryd.underlying4
  a4 := Tryd.isAgg4
  z4 := Tryd.sizeOf4
  v4 := Tryd.zeroValue4
  t22 := Tryd.underlying36
  a22 := Tryd.isAgg36
  z22 := Tryd.sizeOf36
  v22 := Tryd.zeroValue36
  i3 := by kernel_rfl }
open Go.RowKit Go.Lib in
/-- slices.Clone at []int: "Clone returns a copy of the slice. The elements are copied using assignment, so this is a shallow clone. The result may have additional unused capacity. The result preserves the nilness of s.": OF A SLICE THAT IS NOT nil IT RETURNS A SLICE THAT IS NOT nil, OF THE SAME ELEMENTS, IN MEMORY OF THE CALL's OWN: in the how-to's words (6f): 'w'.ownsRow B e 1 v' n cells': v' begins at the head of a row among the blocks from B on (B: the heap's size at the call), not frozen, whose first cells are the elements · 'Below B w w'': below B all is as it was. The capacity is whatever the run-time gives. 'zs': what the cells behind the slice's address hold; 'zs.take n': its elements. (LAID: no walk: one application.) -/
theorem Tryd.slices_Clone_int (b off n c : Nat) (zs : List Int) (w : World) (hz : n ≤ zs.length) (hbig : n * 8 ≤ 140737488355328) (hc : ∀ j, j < zs.length → w.cell? ⟨b, off + j, none⟩ = some (.int .i64 (zs.getD j 0))) :
    Calls Tryd.prog 46 #[.slice (some ⟨b, off, none⟩) n c] w fun e w' => ∃ v', e = .returned v' ∧ w'.ownsRow w.heap.size 3 1 v' n ((zs.take n).map (Value.int .i64)) ∧ v' ≠ .slice none 0 0 ∧ Below w.heap.size w w' := Any.slices_Clone_int Tryd.laysNm215 b off n c zs w hz hbig hc
open Go.RowKit Go.Lib in
/-- The same at nil: nil comes back; the world is as it was. (LAID: no walk: one application.) -/
theorem Tryd.slices_Clone_int_nil (n c : Nat) (w : World) :
    Calls Tryd.prog 46 #[.slice none n c] w fun e w' => e = .returned (.slice none 0 0) ∧ w' = w := Any.slices_Clone_int_nil Tryd.laysNm215 n c w
open Go.RowKit Go.Lib in
/-- The same at a slice of length 0 that is not nil, WHATEVER ITS ADDRESS (no cell is asked for): a slice that is not nil and owns nothing comes back. (LAID: no walk: one application.) -/
theorem Tryd.slices_Clone_int_zero (a : Addr) (c : Nat) (w : World) :
    Calls Tryd.prog 46 #[.slice (some a) 0 c] w fun e w' => ∃ v', e = .returned v' ∧ w'.ownsRow w.heap.size 3 1 v' 0 [] ∧ v' ≠ .slice none 0 0 ∧ Below w.heap.size w w' := Any.slices_Clone_int_zero Tryd.laysNm215 a c w
end Go.Proofs
end

section
/- The library that repeats a slice, at a slice of one number. -/
namespace Go.Proofs
open Go.RowKit Go.Cm Go.Shelf

attribute [local go_sem] Oper.semAt_some

theorem splice_rep {α : Type} {a b : α} {n k m : Nat} (hm : m ≤ n - k) (hk : k < n) : splice (List.replicate k a ++ List.replicate (n - k) b) k (List.replicate m a) = List.replicate (k + m) a ++ List.replicate (n - (k + m)) b := by
  have e1 : (List.replicate k a ++ List.replicate (n - k) b).take k = List.replicate k a := by simp
  have e2 : (List.replicate k a ++ List.replicate (n - k) b).drop (k + m) = List.replicate (n - (k + m)) b := by
    rw [List.drop_append, List.drop_of_length_le (by simp)]
    simp [Nat.sub_sub]
  simp only [splice, List.length_replicate, e1, e2]
  rw [← List.append_assoc, List.replicate_append_replicate]

set_option maxRecDepth 100000 in
set_option maxHeartbeats 400000 in
theorem rep_walk (v : Int) (n : Nat) (hn1 : 1 ≤ n) (hn : n ≤ 1000) (b o c : Nat) (w : World) (hc : w.cell? ⟨b, o, none⟩ = some (.int .i64 v)) :
    Calls Tryd.prog 53 #[.slice (some ⟨b, o, none⟩) 1 c, .int .i64 n] w fun e w' => e = .returned (.slice (some ⟨w.heap.size, 0, none⟩) n n) ∧ w'.heap[w.heap.size]? = some (.cells (List.replicate n (Value.int .i64 v)).toArray 3 (0, 0)) ∧ Below w.heap.size w w' := by
  have t36 := Tryd.underlying36
  have a36 := Tryd.isAgg36
  have z36 := Tryd.sizeOf36
  have v36 := Tryd.zeroValue36
  have t3 := Tryd.underlying3
  have a3 := Tryd.isAgg3
  have z3 := Tryd.sizeOf3
  have v3 := Tryd.zeroValue3
  have t84 := Tryd.underlying84
  have a84 := Tryd.isAgg84
  have z84 := Tryd.sizeOf84
  have v84 := Tryd.zeroValue84
  have hmul := fun w => Tryd.bits_Mul 1 n (by omega) (by omega) w
  have e1 : 1 * n / 18446744073709551616 = 0 := by omega
  have e2 : 1 * n % 18446744073709551616 = n := by omega
  rw [e1, e2] at hmul
  have e64 : ∀ args w, (callFunc 64 args).run Tryd.prog w = .ok (.enter 64 args) w := enters_of Tryd.func64 (by kernel_rfl) rfl
  have w1 : IntKind.u64.wrap (n : Int) = (n : Int) := Gr.w64 (by omega) (by omega)
  have w2 : IntKind.i64.wrap (n : Int) = (n : Int) := Gr.wi (by omega) (by omega)
  have c1 : ¬ (n : Int) < 0 := by omega
  have c2 : ¬ (9223372036854775807 : Int) < (n : Int) := by omega
  obtain ⟨i0, hi, hz0, hz1, hz2⟩ := info_parts (show (Tryd.prog.info? 3).map (fun i => (i.zero, i.size, i.bytes)) = some (some (.int .i64 0), 1, 8) by kernel_rfl)
  have w2 := w2
  have hs3 : (Tryd.prog.info? 3).map (·.size) = some 1 := by rw [hi]; simp [hz1]
  have hmk := run_make (P := Tryd.prog) w 36 3 i0 (.int .i64 0) t36 hi hz0 .i64 .i64 (n : Int) (n : Int) (by omega) (Int.le_refl _) (by rw [hz2]; omega) (by omega)
  have hmc : madeCells (Value.int .i64 0).cells ((n : Int).toNat * i0.size) = Array.replicate n (Value.int .i64 0) := by
    rw [hz1, Int.toNat_natCast]
    apply Array.ext
    · simp [madeCells]
    · intro j h1 h2
      simp [madeCells, Value.cells, Nat.mod_one]
  rw [hmc, Int.toNat_natCast] at hmk
  have hg : (w.alloc (.cells (Array.replicate n (Value.int .i64 0)) 3)).heap[w.heap.size]? = some (.cells (List.replicate n (Value.int .i64 0)).toArray 3 (0, 0)) := by rw [World.alloc_heap_new]; simp
  have hb1 : Below w.heap.size w (w.alloc (.cells (Array.replicate n (Value.int .i64 0)) 3)) := (Below.refl _ _).alloc (Nat.le_refl _) _
  have hsrc : ∀ j u, [Value.int .i64 v][j]? = some u → (w.alloc (.cells (Array.replicate n (Value.int .i64 0)) 3)).cell? (Addr.add ⟨b, o, none⟩ j) = some u := by
    intro j u hj
    cases j with
    | zero =>
      cases hj
      obtain ⟨o1, ho1, _⟩ := cells_of_cell hc
      exact (World.cell?_alloc_lt (a := ⟨b, o + 0, none⟩) _ _ (Array.getElem?_eq_some_iff.1 ho1).1).trans hc
    | succ j => simp at hj
  go_enter Tryd.func53, Tryd.ntmps53
  go_wp2_with (first | (go_at_fn 64; refine (hmul _).mono ?_; rintro e w' ⟨rfl, hw'⟩; rw [hw']) | refine wpList_copy_splice rfl (.tmp 31) (.tmp 32) 36 36 rfl 3 t36 hs3 (some ⟨w.heap.size, 0, none⟩) (some ⟨b, o, none⟩) n n 1 c rfl rfl w.heap.size 0 (List.replicate n (.int .i64 0)) 3 hg [.int .i64 v] (by show 1 = min 1 n; omega) (fun _ => ⟨rfl, _, rfl, hsrc⟩) (by simp; omega) (by simp [Value.oneCell']) w.heap.size w hb1 (Nat.le_refl _) ?_; intro w4 hg4 hb4)

  go_loopw [8] (fun s wr => ∃ k : Nat, s = .int .i64 k ∧ 1 ≤ k ∧ k ≤ n ∧ wr.heap[w.heap.size]? = some (.cells (List.replicate k (Value.int .i64 v) ++ List.replicate (n - k) (Value.int .i64 0)).toArray 3 (0, 0)) ∧ Below w.heap.size w wr)
    (fun s _ => n - (intOf s).toNat)
  case atStart => exact ⟨1, rfl, Nat.le_refl _, hn1, by
    have e : splice (List.replicate 0 (Value.int .i64 v) ++ List.replicate (n - 0) (Value.int .i64 0)) 0 (List.replicate 1 (Value.int .i64 v)) = _ := splice_rep (by omega) (by omega)
    simp only [List.replicate_zero, List.nil_append, Nat.sub_zero, Nat.zero_add] at e
    rw [← e]; exact hg4.out, hb4⟩
  case round =>
    obtain ⟨k, rfl, hk1, hkn, hgk, hbk⟩ := hrel
    by_cases hlt : k < n
    · have d1 : (k : Int) < (n : Int) := by omega
      obtain ⟨m, hm⟩ : ∃ m, m = Nat.min k (n - k) := ⟨_, rfl⟩
      have hm2 : m ≤ k ∧ m ≤ n - k ∧ (m = k ∨ m = n - k) := by rw [hm]; show min k (n-k) ≤ k ∧ min k (n-k) ≤ n-k ∧ (min k (n-k) = k ∨ min k (n-k) = n - k); omega
      have hm1 : (List.replicate m (Value.int .i64 v)).length = Nat.min k (n - k) := by simp [hm]
      have hcp : ∀ j u, (List.replicate m (Value.int .i64 v))[j]? = some u → wr.cell? (Addr.add ⟨w.heap.size, 0, none⟩ j) = some u := by
        intro j u hj
        obtain ⟨hj1, rfl⟩ := List.getElem?_eq_some_iff.1 hj
        have hjm : j < m := by simpa using hj1
        have h1 : j < k := by omega
        have h2 : Addr.add ⟨w.heap.size, 0, none⟩ j = ⟨w.heap.size, j, none⟩ := by
          by_cases h0 : j = 0 <;> simp [Addr.add, h0]
        rw [h2]
        simp [World.cell?, hgk, List.getElem?_append, h1]
      have hfit : k + (List.replicate m (Value.int .i64 v)).length ≤ (List.replicate k (Value.int .i64 v) ++ List.replicate (n - k) (Value.int .i64 0)).length := by simp; omega
      have hone : ∀ u ∈ List.replicate m (Value.int .i64 v), u.oneCell' = true := fun u hu => by rw [(List.mem_replicate.1 hu).2]; rfl
      have hnk : ¬ n = k := by omega
      go_wp2
      go_region_law (refine step_copy_splice rfl (.tmp 41) (.tmp 44) 36 36 rfl 3 t36 hs3 (some ⟨w.heap.size, k, none⟩) (some ⟨w.heap.size, 0, none⟩) (n - k) (n - k) k n (by simp [Act.eval, Act.put]) (by simp [Act.eval, Act.put]) w.heap.size k _ 3 hgk (List.replicate m (.int .i64 v)) hm1 (fun _ => ⟨rfl, _, rfl, hcp⟩) hfit hone w.heap.size w (show Below w.heap.size w wr.drew from ⟨hbk.os, hbk.tape, hbk.output, hbk.size, hbk.block⟩) (Nat.le_refl _) ?_; intro w5 hg5 hb5)
      have hw3 : IntKind.i64.wrap ((k : Int) + ((k.min (n - k) : Nat) : Int)) = ((k + m : Nat) : Int) := by rw [Gr.wi (by omega) (by omega), ← hm]; omega
      rw [hw3]
      simp only [Act.put, List.setIfInBounds_toArray, List.set_cons_succ, List.set_cons_zero, List.getElem_toArray, List.getElem_cons_succ, List.getElem_cons_zero]
      go_roundw
      case rel =>
        refine ⟨_, _, _, _, _, _, _, _, _, _, _, _, _, _, ⟨k + m, rfl, by omega, by omega, ?_, hb5⟩, rfl⟩
        have e : splice (List.replicate k (Value.int .i64 v) ++ List.replicate (n - k) (Value.int .i64 0)) k (List.replicate m (Value.int .i64 v)) = List.replicate (k + m) (Value.int .i64 v) ++ List.replicate (n - (k + m)) (Value.int .i64 0) := by
          exact splice_rep hm2.2.1 hlt
        rw [← e]; exact hg5.out
      case measure => simp [intOf]; omega
    · have hkk : k = n := by omega
      subst hkk
      have d1 : ¬ (k : Int) < (k : Int) := by omega
      go_wp2
      go_ret
      exact ⟨rfl, by simpa using hgk, hbk⟩
theorem rep_intsI {H : Nat → Prop} {w : World} {k : IntKind} : ∀ {xs : List Int}, repL (fun c (y : Int) => (Ty.int k).rep H w c y) (xs.map (Value.int k)) xs
  | [] => rfl
  | x :: xs => ⟨[.int k x], xs.map (Value.int k), rfl, rfl, rep_intsI⟩

/-- One owned slice handed back, nothing lent. -/
theorem ret_own {P : Program} {f : FuncId} {vals : Array Value} {w : World} {O : Nat → Prop} (hO : ∀ b, O b → b < w.heap.size) {ρ0 : Nat → Value} {T : TypeId} {ys : List Int} {fr : List Nat} (h : Calls P f vals w fun e w' => ∃ v, e = .returned v ∧ Below w.heap.size w w' ∧ (∃ a n c, v = .slice a n c) ∧ Cm.rowAt (fun b => w.heap.size ≤ b) w' T 1 v ys.length (ys.map (Value.int .i64))) :
    Calls P f vals w fun e w' => ∃ (vs : List Value) (ρ1 : Nat → Value), e = .returned (retV vs) ∧ ([] : List OObj).length = ([] : List OObj).length ∧ Bel (fun b => w.heap.size ≤ b ∨ lentBlk ρ0 [] b) w w' ∧
      (∀ k, ¬ (ioB ≤ k ∧ fr.contains (k - ioB) = true) → ρ1 k = ρ0 k) ∧
      All2 (RepR (hotR (hot O ρ1 (ioList ioB [])) [RV.own (.int .i64) T ys] vs) w' w.heap.size) [RV.own (.int .i64) T ys] vs ∧ apartR [RV.own (.int .i64) T ys] vs ∧
      (∀ p ∈ ioList ioB ([] : List OObj), OwnOK (hotR (hot O ρ1 (ioList ioB [])) [RV.own (.int .i64) T ys] vs) w' ρ1 (fun b => w.heap.size ≤ b ∨ lentBlk ρ0 [] b) p) ∧
      Apart ρ1 (ioList ioB []) ∧ ∀ b, lentBlk ρ1 [] b → ¬ hotR (fun _ => False) [RV.own (.int .i64) T ys] vs b :=
  h.mono fun e w' ⟨v, he, hb, hs, hr⟩ => ⟨[v], ρ0, he, rfl, ⟨hb.os, hb.tape, hb.output, hb.size, fun k hk _ => hb.block k hk⟩, fun _ _ => rfl, ⟨⟨hs, _, rep_intsI, by exact hr⟩, trivial⟩, ⟨fun _ b _ h => h, trivial⟩, fun p hp => by simp [ioList] at hp, List.Pairwise.nil, fun b hb => by simp [lentBlk, ioList] at hb⟩

def cRep : Con := fun l os => match l, os with
  | [.z (.slice (.int .i64)) [v], .z (.int .i64) n], [] => some (1 ≤ n ∧ n ≤ 1000, [.own (.int .i64) 3 (List.replicate n.toNat v)], [])
  | _, _ => none

theorem two_vals {R : LV → Value → Prop} {x y : LV} {vals : Array Value} (h : All2 R [x, y] vals.toList) : ∃ u v, vals = #[u, v] ∧ R x u ∧ R y v := by
  obtain ⟨l⟩ := vals
  match l, h with
  | [u, v], h => exact ⟨u, v, rfl, h.1, h.2.1⟩
  | [_], h => exact h.2.elim
  | _ :: _ :: _ :: _, h => exact h.2.2.elim

theorem nat_of {n : Int} (h : 1 ≤ n ∧ n ≤ 1000) : ∃ m : Nat, n = m ∧ 1 ≤ m ∧ m ≤ 1000 := ⟨n.toNat, by omega, by omega, by omega⟩

theorem valid53 {B : Base} (hB : Tabs B) : Valid B Tryd.prog 53 cRep := by
  intro args os C rs os' hc hC O w vals ρ0 hOn hIo hO hOI hargs hown hap
  unfold cRep at hc
  split at hc
  case h_2 => cases hc
  rename_i v n
  cases hc
  obtain ⟨u, z, rfl, hu, hz⟩ := two_vals hargs
  rw [int_val hz]
  obtain ⟨m, rfl, h1, h2⟩ := nat_of hC
  obtain ⟨cells, hr, h⟩ := slice_src hu
  have hcs := rep_ints hr
  subst hcs
  rcases h with ⟨_, h0, _⟩ | ⟨ad, c, rfl, hc⟩
  · simp at h0
  refine ret_own hO ?_
  have hcell : w.cell? ad = some (.int .i64 v) := by
    have := hc 0 (.int .i64 v) rfl
    simpa [Addr.add] using this
  obtain ⟨b, o, sp⟩ := ad
  obtain rfl : sp = none := by
    cases sp with
    | none => rfl
    | some _ => simp only [World.cell?] at hcell; split at hcell <;> simp at hcell
  refine (rep_walk v m h1 h2 b o c w hcell).mono fun e w' ⟨he, hw, hb⟩ => ⟨_, he, hb, ⟨_, _, _, rfl⟩, ?_⟩
  rw [Int.toNat_natCast, List.length_replicate, List.map_replicate]
  exact ⟨by simp, .inr ⟨_, m, _, rfl, Nat.le_refl _, hw, Nat.le_refl _, by unfold maxLen; omega, by simp, by simp⟩⟩
theorem own_slice {w : World} {base e size n : Nat} {v : Value} {xs : List Value} (h : w.ownsRow base e size v n xs) : ∃ a m c, v = .slice a m c := by
  obtain ⟨_, ⟨rfl, _⟩ | ⟨g, cap, cur, rfl, _⟩⟩ := h <;> exact ⟨_, _, _, rfl⟩

/-- One slice of numbers handed back as data, nothing lent. -/
theorem ret_cold {P : Program} {f : FuncId} {vals : Array Value} {w : World} {O : Nat → Prop} (hO : ∀ b, O b → b < w.heap.size) {ρ0 : Nat → Value} {T : TypeId} {ys : List Int} {fr : List Nat} (h : Calls P f vals w fun e w' => ∃ v, e = .returned v ∧ Below w.heap.size w w' ∧ (∃ a n c, v = .slice a n c) ∧ Cm.rowAt (fun b => w.heap.size ≤ b) w' T 1 v ys.length (ys.map (Value.int .i64))) :
    Calls P f vals w fun e w' => ∃ (vs : List Value) (ρ1 : Nat → Value), e = .returned (retV vs) ∧ ([] : List OObj).length = ([] : List OObj).length ∧ Bel (fun b => w.heap.size ≤ b ∨ lentBlk ρ0 [] b) w w' ∧
      (∀ k, ¬ (ioB ≤ k ∧ fr.contains (k - ioB) = true) → ρ1 k = ρ0 k) ∧
      All2 (RepR (hotR (hot O ρ1 (ioList ioB [])) [RV.z (.slice (.int .i64)) ys] vs) w' w.heap.size) [RV.z (.slice (.int .i64)) ys] vs ∧ apartR [RV.z (.slice (.int .i64)) ys] vs ∧
      (∀ p ∈ ioList ioB ([] : List OObj), OwnOK (hotR (hot O ρ1 (ioList ioB [])) [RV.z (.slice (.int .i64)) ys] vs) w' ρ1 (fun b => w.heap.size ≤ b ∨ lentBlk ρ0 [] b) p) ∧
      Apart ρ1 (ioList ioB []) ∧ ∀ b, lentBlk ρ1 [] b → ¬ hotR (fun _ => False) [RV.z (.slice (.int .i64)) ys] vs b :=
  h.mono fun e w' ⟨v, he, hb, hs, hr⟩ => ⟨[v], ρ0, he, rfl, ⟨hb.os, hb.tape, hb.output, hb.size, fun k hk _ => hb.block k hk⟩, fun _ _ => rfl, ⟨by
    have h1 : RepR (hotR (hot O ρ0 (ioList ioB [])) [RV.z (.slice (.int .i64)) ys] [v]) w' w.heap.size (.own (.int .i64) T ys) v := ⟨hs, _, rep_intsI, by exact hr⟩
    refine cold_rep h1 (fun _ h => h) ?_
    rintro b hbl (⟨h, _⟩ | (h | ⟨p, hp, _⟩))
    · cases h
    · obtain ⟨_, ⟨rfl, _⟩ | ⟨g, cap, cur, rfl, hg, _⟩⟩ := hr
      · simp [Blk] at hbl
      · simp [Blk] at hbl; have := hO b h; omega
    · simp [ioList] at hp, trivial⟩, ⟨fun h => (by cases h), trivial⟩, fun p hp => by simp [ioList] at hp, List.Pairwise.nil, fun b hb => by simp [lentBlk, ioList] at hb⟩

def cClone : Con := fun l os => match l, os with
  | [.z (.slice (.int .i64)) xs], [] => some (xs.length ≤ 1000000, [.z (.slice (.int .i64)) xs], [])
  | _, _ => none

theorem valid46 {B : Base} (hB : Tabs B) : Valid B Tryd.prog 46 cClone := by
  intro args os C rs os' hc hC O w vals ρ0 hOn hIo hO hOI hargs hown hap
  unfold cClone at hc
  split at hc
  case h_2 => cases hc
  rename_i xs
  cases hc
  obtain ⟨u, rfl, hu⟩ := one_val hargs
  obtain ⟨cells, hr, h⟩ := slice_src hu
  have hcs := rep_ints hr
  subst hcs
  refine ret_cold hO (T := 3) ?_
  rcases h with ⟨rfl, h0, _⟩ | ⟨ad, c, rfl, hc⟩
  · obtain rfl := List.eq_nil_of_length_eq_zero h0
    exact (Tryd.slices_Clone_int_nil 0 0 w).mono fun e w' ⟨he, hw⟩ => ⟨_, he, by rw [hw]; exact Below.refl _ _, ⟨_, _, _, rfl⟩, by simp, .inl ⟨rfl, rfl⟩⟩
  · by_cases h0 : xs.length = 0
    · obtain rfl := List.eq_nil_of_length_eq_zero h0
      exact (Tryd.slices_Clone_int_zero ad c w).mono fun e w' ⟨v', he, hrow, _, hb⟩ => ⟨_, he, hb, own_slice hrow, hrow⟩
    · have hcell : w.cell? ad = some (.int .i64 (xs.getD 0 0)) := by
        have := hc 0 (.int .i64 (xs.getD 0 0)) (by simp [List.getElem?_eq_getElem (show 0 < xs.length by omega)])
        simpa [Addr.add] using this
      obtain ⟨b, o, sp⟩ := ad
      obtain rfl : sp = none := by
        cases sp with
        | none => rfl
        | some _ => simp only [World.cell?] at hcell; split at hcell <;> simp at hcell
      have hcc : ∀ j, j < xs.length → w.cell? ⟨b, o + j, none⟩ = some (.int .i64 (xs.getD j 0)) := by
        intro j hj
        have h1 := hc j (.int .i64 (xs.getD j 0)) (by simp [List.getElem?_eq_getElem hj])
        have h2 : Addr.add ⟨b, o, none⟩ j = ⟨b, o + j, none⟩ := by
          by_cases h0 : j = 0 <;> simp [Addr.add, h0]
        rwa [h2] at h1
      have hC : xs.length ≤ 1000000 := hC
      refine (Tryd.slices_Clone_int b o xs.length c xs w (Nat.le_refl _) (by omega) hcc).mono fun e w' ⟨v', he, hrow, _, hb⟩ => ⟨_, he, hb, own_slice hrow, ?_⟩
      have : xs.take xs.length = xs := List.take_of_length_le (Nat.le_refl _)
      rw [this] at hrow
      exact hrow
end Go.Proofs
end

section
/- The types of the program that are data. -/
namespace Go.Proofs.YtcopdikdkkdlfaaDoor
open Go Go.Cm Go.Proofs
set_option maxRecDepth 100000

theorem ty3 : TyOK Tryd.prog 3 (.int .i64) := ty_int (by kernel_rfl) (by kernel_rfl)
theorem ty4 : TyOK Tryd.prog 4 .bool := ty_bool (by kernel_rfl) (by kernel_rfl)
theorem ty5 : TyOK Tryd.prog 5 (.int .u8) := ty_int (by kernel_rfl) (by kernel_rfl)
theorem ty22 : TyOK Tryd.prog 22 (.slice (.arr 2 (.int .u8))) := ty_slice (E := 63) (by kernel_rfl) (by kernel_rfl) (by kernel_rfl) (by kernel_rfl) (.inl rfl)
theorem ty24 : TyOK Tryd.prog 24 (.st (.pair (.int .u8) (.pair (.slice (.arr 2 (.int .u8))) .bool))) := ty_st (by kernel_rfl) (by kernel_rfl)
theorem ty25 : TyOK Tryd.prog 25 (.int .u16) := ty_int (by kernel_rfl) (by kernel_rfl)
theorem ty27 : TyOK Tryd.prog 27 (.slice (.slice (.int .i64))) := ty_slice (E := 36) (by kernel_rfl) (by kernel_rfl) (by kernel_rfl) (by kernel_rfl) (.inr rfl)
theorem ty29 : TyOK Tryd.prog 29 (.int .u64) := ty_int (by kernel_rfl) (by kernel_rfl)
theorem ty30 : TyOK Tryd.prog 30 (.int .u64) := ty_int (by kernel_rfl) (by kernel_rfl)
theorem ty32 : TyOK Tryd.prog 32 (.int .i64) := ty_int (by kernel_rfl) (by kernel_rfl)
theorem ty36 : TyOK Tryd.prog 36 (.slice (.int .i64)) := ty_slice (E := 3) (by kernel_rfl) (by kernel_rfl) (by kernel_rfl) (by kernel_rfl) (.inr rfl)
theorem ty37 : TyOK Tryd.prog 37 (.slice (.int .u64)) := ty_slice (E := 30) (by kernel_rfl) (by kernel_rfl) (by kernel_rfl) (by kernel_rfl) (.inr rfl)
theorem ty50 : TyOK Tryd.prog 50 (.arr 2 (.slice (.slice (.int .i64)))) := ty_arr (E := 27) (by kernel_rfl) (by kernel_rfl) (by kernel_rfl) (by kernel_rfl) (.inr rfl)
theorem ty51 : TyOK Tryd.prog 51 (.arr 2 (.int .u64)) := ty_arr (E := 30) (by kernel_rfl) (by kernel_rfl) (by kernel_rfl) (by kernel_rfl) (.inr rfl)
theorem ty63 : TyOK Tryd.prog 63 (.arr 2 (.int .u8)) := ty_arr (E := 5) (by kernel_rfl) (by kernel_rfl) (by kernel_rfl) (by kernel_rfl) (.inr rfl)
theorem ty64 : TyOK Tryd.prog 64 (.opt (.st (.st (.slice (.slice (.int .i64)))))) := ty_opt (E := 73) (by kernel_rfl) (by kernel_rfl)
theorem ty69 : TyOK Tryd.prog 69 .func := ty_func (by kernel_rfl) ⟨_, _, _, Tryd.underlying69⟩
theorem ty71 : TyOK Tryd.prog 71 (.st (.slice (.slice (.int .i64)))) := ty_st (by kernel_rfl) (by kernel_rfl)
theorem ty73 : TyOK Tryd.prog 73 (.st (.st (.slice (.slice (.int .i64))))) := ty_st (by kernel_rfl) (by kernel_rfl)
theorem ty84 : TyOK Tryd.prog 84 (.int .u64) := ty_int (by kernel_rfl) (by kernel_rfl)
theorem ty95 : TyOK Tryd.prog 95 (.int .i64) := ty_int (by kernel_rfl) (by kernel_rfl)
theorem ty106 : TyOK Tryd.prog 106 (.int .u64) := ty_int (by kernel_rfl) (by kernel_rfl)
theorem ty110 : TyOK Tryd.prog 110 (.ptr (.int .i64)) := ty_ptr (E := 3) (by kernel_rfl) (by kernel_rfl)

end Go.Proofs.YtcopdikdkkdlfaaDoor
end

section
/- The functions of the package graph, one after the other: each meets its contract. -/
set_option linter.unusedSimpArgs false
set_option linter.unusedVariables false
set_option maxRecDepth 100000
namespace Go.Proofs.YtcopdikdkkdlfaaDoor
open Go Go.Cm Go.Cm.Gr Go.Proofs

def cVisit (k : Nat) : Con := fun l os => match l, os with
  | [.z (.int .i64) v, .ownP 10000000 0, .ownP 10000001 0, .ownP 10000002 0, .ownP 10000003 0, .ownP 10000004 0, .ownP 10000005 0, .ownP 10000006 0], [.box 3 [.z (.int .i64) cnt], .box 36 [.ownS 10000007], .box 36 [.ownS 10000008], .box 64 [.z (.opt (.st (.st (.slice (.slice (.int .i64)))))) (some g)], .box 69 [.fn 37 cs], .box 30 [.z (.int .u64) dn], .box 37 [.ownS 10000009], .arr (.int .i64) 3 fnd, .arr (.int .i64) 3 stk, .arr (.int .u64) 30 out] => some (cs = [.p 10000000, .p 10000001, .p 10000002, .p 10000003, .p 10000004, .p 10000005, .p 10000006] ∧ Val g ∧ 0 ≤ dn ∧ (∃ gray, Pre g gray (⟨cnt, fnd, stk, dn.toNat, out⟩ : Tj) v) ∧ white fnd ≤ k, [.z (.int .i64) (tvisit g k (⟨cnt, fnd, stk, dn.toNat, out⟩ : Tj) v).2], [.box 3 [.z (.int .i64) (tvisit g k (⟨cnt, fnd, stk, dn.toNat, out⟩ : Tj) v).1.cnt], .box 36 [.ownS 10000007], .box 36 [.ownS 10000008], .box 64 [.z (.opt (.st (.st (.slice (.slice (.int .i64)))))) (some g)], .box 69 [.fn 37 cs], .box 30 [.z (.int .u64) ((tvisit g k (⟨cnt, fnd, stk, dn.toNat, out⟩ : Tj) v).1.dn : Int)], .box 37 [.ownS 10000009], .arr (.int .i64) 3 (tvisit g k (⟨cnt, fnd, stk, dn.toNat, out⟩ : Tj) v).1.fnd, .arr (.int .i64) 3 (tvisit g k (⟨cnt, fnd, stk, dn.toNat, out⟩ : Tj) v).1.stk, .arr (.int .u64) 30 (tvisit g k (⟨cnt, fnd, stk, dn.toNat, out⟩ : Tj) v).1.out])
  | _, _ => none
def tab37 (k : Nat) (B : Base) : Tab := { types := [(3, (.int .i64)), (27, (.slice (.slice (.int .i64)))), (30, (.int .u64)), (36, (.slice (.int .i64))), (37, (.slice (.int .u64))), (64, (.opt (.st (.st (.slice (.slice (.int .i64))))))), (69, .func), (71, (.st (.slice (.slice (.int .i64))))), (73, (.st (.st (.slice (.slice (.int .i64))))))], elems := [(36, 3), (37, 30)], cons := [(37, cVisit k)], hint := [75, 88], N := 97, free := [10000008, 10000009], frees := [(37, [8, 9])], base := B }
theorem good37 {k : Nat} {B : Base} (hB : Tabs B) (ih : Valid B Tryd.prog 37 (cVisit k) [8, 9]) : MGood Tryd.prog (tab37 k B) := ⟨⟨types_cons ty3 (types_cons ty27 (types_cons ty30 (types_cons ty36 (types_cons ty37 (types_cons ty64 (types_cons ty69 (types_cons ty71 (types_cons ty73 (types_nil))))))))), elems_cons (by kernel_rfl) (elems_cons (by kernel_rfl) (elems_nil)), by simp only [tab37, ioB]; omega⟩, cons_ok (cals_cons (cal_ok Tryd.func37 (by kernel_rfl) rfl (ih)) (cals_nil)), by kernel_rfl⟩
set_option maxHeartbeats 2000000 in
theorem valid37s {k : Nat} {B : Base} (hB : Tabs B) (ih : Valid B Tryd.prog 37 (cVisit k) [8, 9]) : Valid B Tryd.prog 37 (cVisit (k + 1)) [8, 9] := by
  refine valid_of_Jx (T := tab37 k B) (good37 hB ih).tab Tryd.func37 rfl rfl rfl (free_ok (by simp only [tab37]; decide)) ?_
  intro args os C rs os' hc hC
  unfold cVisit at hc
  split at hc
  case h_2 => cases hc
  rename_i v cnt g cs dn fnd stk out
  cases hc
  refine ⟨by simp only [List.length_cons, List.length_nil, tab37]; omega, rfl, .inr rfl, ?_⟩
  intro X hP hT hr
  have hG : MGood X.P X.T := by rw [hP, hT]; exact good37 hB ih
  unfold tab37 at hT
  have hX := @cVisit.eq_1
  simp only [Tryd.f37, argEnv, ioList, ioB]
  refine r_seq ?_
  show J X _ _ _
  obtain ⟨hcs, hv, hd, ⟨gray, hp⟩, hw⟩ := hC
  subst hcs
  obtain ⟨L1, L2, L3, L4, L5, L6⟩ := hp.inv.lim hv
  have hn := hp.node
  dsimp only at L1 L2 L3 L4 L5 L6 hw
  have n2 := hv.most
  refine r_region hG (by simp only [hT, tab37, lenLV.eq_def, cVisit, mx0, mx1, mx2, mx3, mx4, mx5, mx6, effOp, endCall, callOp, appendOp, sliceLV, Ty.fieldTy, Ty.fieldOf, Nat.reduceLT, Nat.reduceEqDiff, Nat.reduceAdd, Nat.reduceMul, Nat.reduceSub, Nat.reduceLeDiff, Nat.reduceBEq, Nat.reduceBNe, reduceIte, reduceDIte, reduceCtorEq]; rfl) ?_ ?_ -- R0
  · first | trivial | omega | (simp; done) | (simp; omega)
  refine k_seq ?_
  refine r_seq ?_
  show J X _ _ _
  refine r_region hG (by simp only [hT, tab37, lenLV.eq_def, cVisit, mx0, mx1, mx2, mx3, mx4, mx5, mx6, effOp, endCall, callOp, appendOp, sliceLV, Ty.fieldTy, Ty.fieldOf, Nat.reduceLT, Nat.reduceEqDiff, Nat.reduceAdd, Nat.reduceMul, Nat.reduceSub, Nat.reduceLeDiff, Nat.reduceBEq, Nat.reduceBNe, reduceIte, reduceDIte, reduceCtorEq]; rfl) ?_ ?_ -- R1
  · first | trivial | omega | (simp; done) | (simp; omega)
  refine k_seq ?_
  refine r_seq ?_
  show J X _ _ _
  refine r_region hG (by simp only [hT, tab37, lenLV.eq_def, cVisit, mx0, mx1, mx2, mx3, mx4, mx5, mx6, effOp, endCall, callOp, appendOp, sliceLV, Ty.fieldTy, Ty.fieldOf, Nat.reduceLT, Nat.reduceEqDiff, Nat.reduceAdd, Nat.reduceMul, Nat.reduceSub, Nat.reduceLeDiff, Nat.reduceBEq, Nat.reduceBNe, reduceIte, reduceDIte, reduceCtorEq]; rfl) ?_ ?_ -- R2
  · try simp only [and_true, true_and]
    exact idx1 L6 hn.1 hn.2
  refine k_seq ?_
  refine r_seq ?_
  show J X _ _ _
  refine r_draw hG (by simp only [hT, mt0, tab37, lenLV.eq_def, cVisit, mx0, mx1, mx2, mx3, mx4, mx5, mx6, effOp, endCall, callOp, appendOp, sliceLV, Ty.fieldTy, Ty.fieldOf, Nat.reduceLT, Nat.reduceEqDiff, Nat.reduceAdd, Nat.reduceMul, Nat.reduceSub, Nat.reduceLeDiff, Nat.reduceBEq, Nat.reduceBNe, reduceIte, reduceDIte, reduceCtorEq]; rfl) (by kernel_rfl) (by rfl) (by rfl) ?_ ?_ -- R3
  · first | trivial | omega | (simp; done) | (simp; omega)
  refine k_seq ?_
  refine r_seq ?_
  show J X _ _ _
  refine r_region hG (by simp only [hT, tab37, lenLV.eq_def, cVisit, mx0, mx1, mx2, mx3, mx4, mx5, mx6, effOp, endCall, callOp, appendOp, sliceLV, Ty.fieldTy, Ty.fieldOf, Nat.reduceLT, Nat.reduceEqDiff, Nat.reduceAdd, Nat.reduceMul, Nat.reduceSub, Nat.reduceLeDiff, Nat.reduceBEq, Nat.reduceBNe, reduceIte, reduceDIte, reduceCtorEq]; rfl) ?_ ?_ -- R4
  · try simp only [and_true, true_and]
    exact roomy1 (by omega)
  refine k_seq ?_
  refine r_seq ?_
  refine r_seq ?_
  show J X _ _ _
  refine r_region hG (by simp only [hT, tab37, lenLV.eq_def, cVisit, mx0, mx1, mx2, mx3, mx4, mx5, mx6, effOp, endCall, callOp, appendOp, sliceLV, Ty.fieldTy, Ty.fieldOf, Nat.reduceLT, Nat.reduceEqDiff, Nat.reduceAdd, Nat.reduceMul, Nat.reduceSub, Nat.reduceLeDiff, Nat.reduceBEq, Nat.reduceBNe, reduceIte, reduceDIte, reduceCtorEq]; rfl) ?_ ?_ -- R5
  · try simp only [and_true, true_and]
    exact hn
  refine k_seq ?_
  refine j_block ?_
  refine j_loop (fun (z : Nat) => (⟨[(0, .l (.z (.int .i64) v)), (1, .l (.ownP 10000000 0)), (2, .l (.ownP 10000001 0)), (3, .l (.ownP 10000002 0)), (4, .l (.ownP 10000003 0)), (5, .l (.ownP 10000004 0)), (6, .l (.ownP 10000005 0)), (7, .l (.ownP 10000006 0)), (10, .l (.z (.int .i64) (tj g k (⟨cnt, fnd, stk, dn.toNat, out⟩ : Tj) v z).2)), (11, .l (.z (.int .i64) (stk.length : Int))), (37, .l (.z (.slice (.int .i64)) (row g v.toNat))), (38, .l (.z (.int .i64) ((row g v.toNat).length : Int))), (39, .l (.z (.int .i64) (z : Int)))], [(10000000, .box 3 [.z (.int .i64) (tj g k (⟨cnt, fnd, stk, dn.toNat, out⟩ : Tj) v z).1.cnt]), (10000001, .box 36 [.ownS 10000007]), (10000002, .box 36 [.ownS 10000008]), (10000003, .box 64 [.z (.opt (.st (.st (.slice (.slice (.int .i64)))))) (some g)]), (10000004, .box 69 [.fn 37 [.p 10000000, .p 10000001, .p 10000002, .p 10000003, .p 10000004, .p 10000005, .p 10000006]]), (10000005, .box 30 [.z (.int .u64) ((tj g k (⟨cnt, fnd, stk, dn.toNat, out⟩ : Tj) v z).1.dn : Int)]), (10000006, .box 37 [.ownS 10000009]), (10000007, .arr (.int .i64) 3 (tj g k (⟨cnt, fnd, stk, dn.toNat, out⟩ : Tj) v z).1.fnd), (10000008, .arr (.int .i64) 3 (tj g k (⟨cnt, fnd, stk, dn.toNat, out⟩ : Tj) v z).1.stk), (10000009, .arr (.int .u64) 30 (tj g k (⟨cnt, fnd, stk, dn.toNat, out⟩ : Tj) v z).1.out)]⟩ : AState)) (fun z => z ≤ (row g v.toNat).length) (fun z => (row g v.toNat).length - z) 0 ?_ ?_ ?_
  · simp only [ml0, ml1, Nat.reduceLT, Nat.reduceEqDiff, Nat.reduceAdd, Nat.reduceMul, Nat.reduceSub, Nat.reduceLeDiff, Nat.reduceBEq, Nat.reduceBNe, reduceIte, reduceDIte, reduceCtorEq]
    rw [tj_zero, wi (by omega) (by omega)]
    exact ⟨rfl, rfl, rfl, rfl, rfl, (Int.toNat_of_nonneg hd).symm, rfl, rfl, rfl⟩
  · omega
  · rintro j g1
    try dsimp only at g1
    have e7 := row_len hv v.toNat
    have lp := tj_lp hv hp hw j
    obtain ⟨m1, m2, m3, m4, m5, m6⟩ := lp.inv.lim hv
    have gr := lp.grown
    dsimp only at gr
    refine r_seq ?_
    show J X _ _ _
    refine r_region hG (by simp only [hT, tab37, lenLV.eq_def, cVisit, mx0, mx1, mx2, mx3, mx4, mx5, mx6, effOp, endCall, callOp, appendOp, sliceLV, Ty.fieldTy, Ty.fieldOf, Nat.reduceLT, Nat.reduceEqDiff, Nat.reduceAdd, Nat.reduceMul, Nat.reduceSub, Nat.reduceLeDiff, Nat.reduceBEq, Nat.reduceBNe, reduceIte, reduceDIte, reduceCtorEq]; rfl) ?_ ?_ -- R6
    · first | trivial | omega | (simp; done) | (simp; omega)
    refine k_seq ?_
    refine r_seq ?_
    refine r_cond (by simp only [hT, tab37, lenLV.eq_def, mx0, mx1, mx2, mx3, mx4, mx5, mx6, effOp, endCall, callOp, appendOp, sliceLV, Ty.fieldTy, Ty.fieldOf, Nat.reduceLT, Nat.reduceEqDiff, Nat.reduceAdd, Nat.reduceMul, Nat.reduceSub, Nat.reduceLeDiff, Nat.reduceBEq, Nat.reduceBNe, reduceIte, reduceDIte, reduceCtorEq]; rfl) ?_ ?_
    · intro hb0
      try simp only [decide_eq_true_eq, decide_eq_false_iff_not, beq_iff_eq, bne_iff_ne, Bool.not_eq_true', Bool.and_eq_true] at hb0
      try simp only [nth_gi, nth_row] at hb0
      have hj : j < (row g v.toNat).length := by omega
      obtain ⟨w1, w2⟩ := row_at' hv hj
      refine r_skip ?_
      refine k_seq ?_
      refine r_seq ?_
      refine j_block ?_
      refine r_seq ?_
      show J X _ _ _
      refine r_region hG (by simp only [hT, tab37, lenLV.eq_def, cVisit, mx0, mx1, mx2, mx3, mx4, mx5, mx6, effOp, endCall, callOp, appendOp, sliceLV, Ty.fieldTy, Ty.fieldOf, Nat.reduceLT, Nat.reduceEqDiff, Nat.reduceAdd, Nat.reduceMul, Nat.reduceSub, Nat.reduceLeDiff, Nat.reduceBEq, Nat.reduceBNe, reduceIte, reduceDIte, reduceCtorEq]; rfl) ?_ ?_ -- R7
      · try simp only [and_true, true_and]
        omega
      refine k_seq ?_
      refine j_block ?_
      refine r_seq ?_
      show J X _ _ _
      refine r_region hG (by simp only [hT, tab37, lenLV.eq_def, cVisit, mx0, mx1, mx2, mx3, mx4, mx5, mx6, effOp, endCall, callOp, appendOp, sliceLV, Ty.fieldTy, Ty.fieldOf, Nat.reduceLT, Nat.reduceEqDiff, Nat.reduceAdd, Nat.reduceMul, Nat.reduceSub, Nat.reduceLeDiff, Nat.reduceBEq, Nat.reduceBNe, reduceIte, reduceDIte, reduceCtorEq]; rfl) ?_ ?_ -- R8
      · try simp only [and_true, true_and]
        exact idx1 m6 w1 w2
      refine k_seq ?_
      refine r_cond (by simp only [hT, tab37, lenLV.eq_def, mx0, mx1, mx2, mx3, mx4, mx5, mx6, effOp, endCall, callOp, appendOp, sliceLV, Ty.fieldTy, Ty.fieldOf, Nat.reduceLT, Nat.reduceEqDiff, Nat.reduceAdd, Nat.reduceMul, Nat.reduceSub, Nat.reduceLeDiff, Nat.reduceBEq, Nat.reduceBNe, reduceIte, reduceDIte, reduceCtorEq]; rfl) ?_ ?_
      · intro hb1
        try simp only [decide_eq_true_eq, decide_eq_false_iff_not, beq_iff_eq, bne_iff_ne, Bool.not_eq_true', Bool.and_eq_true] at hb1
        try simp only [nth_gi, nth_row] at hb1
        have h := tj_a hj hb1
        show J X _ _ _
        refine r_region hG (by simp only [hT, tab37, lenLV.eq_def, cVisit, mx0, mx1, mx2, mx3, mx4, mx5, mx6, effOp, endCall, callOp, appendOp, sliceLV, Ty.fieldTy, Ty.fieldOf, Nat.reduceLT, Nat.reduceEqDiff, Nat.reduceAdd, Nat.reduceMul, Nat.reduceSub, Nat.reduceLeDiff, Nat.reduceBEq, Nat.reduceBNe, reduceIte, reduceDIte, reduceCtorEq]; rfl) ?_ ?_ -- R9
        · try simp only [and_true, true_and]
          exact ⟨hv, Int.natCast_nonneg _, ⟨_, by rw [Int.toNat_natCast]; exact lp.pre hv hp (gi_mem hj) hb1⟩, lp.whites hp hw⟩
        refine k_block ?_
        refine k_block ?_
        refine k_seq ?_
        show J X _ _ _
        refine r_region hG (by simp only [hT, tab37, lenLV.eq_def, cVisit, mx0, mx1, mx2, mx3, mx4, mx5, mx6, effOp, endCall, callOp, appendOp, sliceLV, Ty.fieldTy, Ty.fieldOf, Nat.reduceLT, Nat.reduceEqDiff, Nat.reduceAdd, Nat.reduceMul, Nat.reduceSub, Nat.reduceLeDiff, Nat.reduceBEq, Nat.reduceBNe, reduceIte, reduceDIte, reduceCtorEq]; rfl) ?_ ?_ -- R12
        · first | trivial | omega | (simp; done) | (simp; omega)
        show ∃ z, _
        simp only [ml0, ml1, Nat.reduceLT, Nat.reduceEqDiff, Nat.reduceAdd, Nat.reduceMul, Nat.reduceSub, Nat.reduceLeDiff, Nat.reduceBEq, Nat.reduceBNe, reduceIte, reduceDIte, reduceCtorEq]
        try simp only [Int.toNat_natCast]
        exact ⟨j + 1, by first | (rw [h]; done) | (rw [h]; rfl), by rw [wi (by omega) (by omega)]; simp, by first | (rw [h]; done) | (rw [h]; rfl), by first | (rw [h]; done) | (rw [h]; rfl), by first | (rw [h]; done) | (rw [h]; rfl), by first | (rw [h]; done) | (rw [h]; rfl), by first | (rw [h]; done) | (rw [h]; rfl), by omega, by omega⟩
      · intro hb1
        try simp only [decide_eq_true_eq, decide_eq_false_iff_not, beq_eq_false_iff_ne, bne_eq_false_iff_eq, Bool.not_eq_false', Bool.and_eq_false_imp] at hb1
        try simp only [nth_gi, nth_row] at hb1
        refine r_seq ?_
        show J X _ _ _
        refine r_region hG (by simp only [hT, tab37, lenLV.eq_def, cVisit, mx0, mx1, mx2, mx3, mx4, mx5, mx6, effOp, endCall, callOp, appendOp, sliceLV, Ty.fieldTy, Ty.fieldOf, Nat.reduceLT, Nat.reduceEqDiff, Nat.reduceAdd, Nat.reduceMul, Nat.reduceSub, Nat.reduceLeDiff, Nat.reduceBEq, Nat.reduceBNe, reduceIte, reduceDIte, reduceCtorEq]; rfl) ?_ ?_ -- R10
        · try simp only [and_true, true_and]
          exact w1
        refine k_seq ?_
        refine r_cond (by simp only [hT, tab37, lenLV.eq_def, mx0, mx1, mx2, mx3, mx4, mx5, mx6, effOp, endCall, callOp, appendOp, sliceLV, Ty.fieldTy, Ty.fieldOf, Nat.reduceLT, Nat.reduceEqDiff, Nat.reduceAdd, Nat.reduceMul, Nat.reduceSub, Nat.reduceLeDiff, Nat.reduceBEq, Nat.reduceBNe, reduceIte, reduceDIte, reduceCtorEq]; rfl) ?_ ?_
        · intro hb2
          try simp only [decide_eq_true_eq, decide_eq_false_iff_not, beq_iff_eq, bne_iff_ne, Bool.not_eq_true', Bool.and_eq_true] at hb2
          try simp only [nth_gi, nth_row] at hb2
          have h := tj_b hj hb1 ((dn_bit m5 (show (gi (row g v.toNat) j).toNat ≤ 64 by omega)).1 hb2)
          show J X _ _ _
          refine r_region hG (by simp only [hT, tab37, lenLV.eq_def, cVisit, mx0, mx1, mx2, mx3, mx4, mx5, mx6, effOp, endCall, callOp, appendOp, sliceLV, Ty.fieldTy, Ty.fieldOf, Nat.reduceLT, Nat.reduceEqDiff, Nat.reduceAdd, Nat.reduceMul, Nat.reduceSub, Nat.reduceLeDiff, Nat.reduceBEq, Nat.reduceBNe, reduceIte, reduceDIte, reduceCtorEq]; rfl) ?_ ?_ -- R11
          · try simp only [and_true, true_and]
            exact idx1 m6 w1 w2
          refine k_block ?_
          refine k_block ?_
          refine k_seq ?_
          show J X _ _ _
          refine r_region hG (by simp only [hT, tab37, lenLV.eq_def, cVisit, mx0, mx1, mx2, mx3, mx4, mx5, mx6, effOp, endCall, callOp, appendOp, sliceLV, Ty.fieldTy, Ty.fieldOf, Nat.reduceLT, Nat.reduceEqDiff, Nat.reduceAdd, Nat.reduceMul, Nat.reduceSub, Nat.reduceLeDiff, Nat.reduceBEq, Nat.reduceBNe, reduceIte, reduceDIte, reduceCtorEq]; rfl) ?_ ?_ -- R12
          · first | trivial | omega | (simp; done) | (simp; omega)
          show ∃ z, _
          simp only [ml0, ml1, Nat.reduceLT, Nat.reduceEqDiff, Nat.reduceAdd, Nat.reduceMul, Nat.reduceSub, Nat.reduceLeDiff, Nat.reduceBEq, Nat.reduceBNe, reduceIte, reduceDIte, reduceCtorEq]
          try simp only [Int.toNat_natCast]
          exact ⟨j + 1, by first | (rw [h]; done) | (rw [h]; rfl), by rw [wi (by omega) (by omega)]; simp, by first | (rw [h]; done) | (rw [h]; rfl), by first | (rw [h]; done) | (rw [h]; rfl), by first | (rw [h]; done) | (rw [h]; rfl), by first | (rw [h]; done) | (rw [h]; rfl), by first | (rw [h]; done) | (rw [h]; rfl), by omega, by omega⟩
        · intro hb2
          try simp only [decide_eq_true_eq, decide_eq_false_iff_not, beq_eq_false_iff_ne, bne_eq_false_iff_eq, Bool.not_eq_false', Bool.and_eq_false_imp] at hb2
          try simp only [nth_gi, nth_row] at hb2
          have h := tj_c hj hb1 (eq_true_of_ne_false fun h3 => hb2 ((dn_bit m5 (show (gi (row g v.toNat) j).toNat ≤ 64 by omega)).2 h3))
          refine r_skip ?_
          refine k_block ?_
          refine k_block ?_
          refine k_seq ?_
          show J X _ _ _
          refine r_region hG (by simp only [hT, tab37, lenLV.eq_def, cVisit, mx0, mx1, mx2, mx3, mx4, mx5, mx6, effOp, endCall, callOp, appendOp, sliceLV, Ty.fieldTy, Ty.fieldOf, Nat.reduceLT, Nat.reduceEqDiff, Nat.reduceAdd, Nat.reduceMul, Nat.reduceSub, Nat.reduceLeDiff, Nat.reduceBEq, Nat.reduceBNe, reduceIte, reduceDIte, reduceCtorEq]; rfl) ?_ ?_ -- R12
          · first | trivial | omega | (simp; done) | (simp; omega)
          show ∃ z, _
          simp only [ml0, ml1, Nat.reduceLT, Nat.reduceEqDiff, Nat.reduceAdd, Nat.reduceMul, Nat.reduceSub, Nat.reduceLeDiff, Nat.reduceBEq, Nat.reduceBNe, reduceIte, reduceDIte, reduceCtorEq]
          try simp only [Int.toNat_natCast]
          exact ⟨j + 1, by first | (rw [h]; done) | (rw [h]; rfl), by rw [wi (by omega) (by omega)]; simp, by first | (rw [h]; done) | (rw [h]; rfl), by first | (rw [h]; done) | (rw [h]; rfl), by first | (rw [h]; done) | (rw [h]; rfl), by first | (rw [h]; done) | (rw [h]; rfl), by first | (rw [h]; done) | (rw [h]; rfl), by omega, by omega⟩
    · intro hb0
      try simp only [decide_eq_true_eq, decide_eq_false_iff_not, beq_eq_false_iff_ne, bne_eq_false_iff_eq, Bool.not_eq_false', Bool.and_eq_false_imp] at hb0
      try simp only [nth_gi, nth_row] at hb0
      refine r_exit ?_
      refine k_seq_exit ?_
      refine k_round_exit ?_
      refine k_block_exit ?_
      refine k_seq ?_
      refine r_seq ?_
      refine r_seq ?_
      show J X _ _ _
      refine r_region hG (by simp only [hT, tab37, lenLV.eq_def, cVisit, mx0, mx1, mx2, mx3, mx4, mx5, mx6, effOp, endCall, callOp, appendOp, sliceLV, Ty.fieldTy, Ty.fieldOf, Nat.reduceLT, Nat.reduceEqDiff, Nat.reduceAdd, Nat.reduceMul, Nat.reduceSub, Nat.reduceLeDiff, Nat.reduceBEq, Nat.reduceBNe, reduceIte, reduceDIte, reduceCtorEq]; rfl) ?_ ?_ -- R13
      · try simp only [and_true, true_and]
        exact idx1 m6 hn.1 hn.2
      refine k_seq ?_
      refine r_cond (by simp only [hT, tab37, lenLV.eq_def, mx0, mx1, mx2, mx3, mx4, mx5, mx6, effOp, endCall, callOp, appendOp, sliceLV, Ty.fieldTy, Ty.fieldOf, Nat.reduceLT, Nat.reduceEqDiff, Nat.reduceAdd, Nat.reduceMul, Nat.reduceSub, Nat.reduceLeDiff, Nat.reduceBEq, Nat.reduceBNe, reduceIte, reduceDIte, reduceCtorEq]; rfl) ?_ ?_
      · intro hb3
        try simp only [decide_eq_true_eq, decide_eq_false_iff_not, beq_iff_eq, bne_iff_ne, Bool.not_eq_true', Bool.and_eq_true] at hb3
        try simp only [nth_gi, nth_row] at hb3
        refine r_seq ?_
        show J X _ _ _
        refine r_region hG (by simp only [hT, tab37, lenLV.eq_def, cVisit, mx0, mx1, mx2, mx3, mx4, mx5, mx6, effOp, endCall, callOp, appendOp, sliceLV, Ty.fieldTy, Ty.fieldOf, Nat.reduceLT, Nat.reduceEqDiff, Nat.reduceAdd, Nat.reduceMul, Nat.reduceSub, Nat.reduceLeDiff, Nat.reduceBEq, Nat.reduceBNe, reduceIte, reduceDIte, reduceCtorEq]; rfl) ?_ ?_ -- R14
        · first | trivial | omega | (simp; done) | (simp; omega)
        refine k_seq ?_
        refine r_seq ?_
        refine r_seq ?_
        show J X _ _ _
        refine r_region hG (by simp only [hT, tab37, lenLV.eq_def, cVisit, mx0, mx1, mx2, mx3, mx4, mx5, mx6, effOp, endCall, callOp, appendOp, sliceLV, Ty.fieldTy, Ty.fieldOf, Nat.reduceLT, Nat.reduceEqDiff, Nat.reduceAdd, Nat.reduceMul, Nat.reduceSub, Nat.reduceLeDiff, Nat.reduceBEq, Nat.reduceBNe, reduceIte, reduceDIte, reduceCtorEq]; rfl) ?_ ?_ -- R15
        · try simp only [and_true, true_and]
          exact ⟨by omega, by omega⟩
        refine k_seq ?_
        refine j_block ?_
        refine j_loop (fun (z : Nat) => (⟨[(0, .l (.z (.int .i64) v)), (1, .l (.ownP 10000000 0)), (2, .l (.ownP 10000001 0)), (3, .l (.ownP 10000002 0)), (4, .l (.ownP 10000003 0)), (5, .l (.ownP 10000004 0)), (6, .l (.ownP 10000005 0)), (7, .l (.ownP 10000006 0)), (10, .l (.z (.int .i64) (tj g k (⟨cnt, fnd, stk, dn.toNat, out⟩ : Tj) v j).2)), (11, .l (.z (.int .i64) (stk.length : Int))), (14, .l (.z (.int .u64) (mk ((tj g k (⟨cnt, fnd, stk, dn.toNat, out⟩ : Tj) v j).1.stk.drop stk.length) z : Int))), (75, .l (.ownW 10000008 1 stk.length)), (76, .l (.z (.int .i64) (((tj g k (⟨cnt, fnd, stk, dn.toNat, out⟩ : Tj) v j).1.stk.length - stk.length : Nat) : Int))), (77, .l (.z (.int .i64) (z : Int)))], [(10000000, .box 3 [.z (.int .i64) (tj g k (⟨cnt, fnd, stk, dn.toNat, out⟩ : Tj) v j).1.cnt]), (10000001, .box 36 [.ownS 10000007]), (10000002, .box 36 [.ownS 10000008]), (10000003, .box 64 [.z (.opt (.st (.st (.slice (.slice (.int .i64)))))) (some g)]), (10000004, .box 69 [.fn 37 [.p 10000000, .p 10000001, .p 10000002, .p 10000003, .p 10000004, .p 10000005, .p 10000006]]), (10000005, .box 30 [.z (.int .u64) ((tj g k (⟨cnt, fnd, stk, dn.toNat, out⟩ : Tj) v j).1.dn : Int)]), (10000006, .box 37 [.ownS 10000009]), (10000007, .arr (.int .i64) 3 (tj g k (⟨cnt, fnd, stk, dn.toNat, out⟩ : Tj) v j).1.fnd), (10000008, .arr (.int .i64) 3 (tj g k (⟨cnt, fnd, stk, dn.toNat, out⟩ : Tj) v j).1.stk), (10000009, .arr (.int .u64) 30 (tj g k (⟨cnt, fnd, stk, dn.toNat, out⟩ : Tj) v j).1.out)]⟩ : AState)) (fun z => z ≤ (tj g k (⟨cnt, fnd, stk, dn.toNat, out⟩ : Tj) v j).1.stk.length - stk.length) (fun z => (tj g k (⟨cnt, fnd, stk, dn.toNat, out⟩ : Tj) v j).1.stk.length - stk.length - z) 0 ?_ ?_ ?_
        · simp only [ml0, ml1, Nat.reduceLT, Nat.reduceEqDiff, Nat.reduceAdd, Nat.reduceMul, Nat.reduceSub, Nat.reduceLeDiff, Nat.reduceBEq, Nat.reduceBNe, reduceIte, reduceDIte, reduceCtorEq]
          exact ⟨rfl, rfl, rfl, rfl⟩
        · omega
        · rintro i g2
          try dsimp only at g2
          refine r_seq ?_
          show J X _ _ _
          refine r_region hG (by simp only [hT, tab37, lenLV.eq_def, cVisit, mx0, mx1, mx2, mx3, mx4, mx5, mx6, effOp, endCall, callOp, appendOp, sliceLV, Ty.fieldTy, Ty.fieldOf, Nat.reduceLT, Nat.reduceEqDiff, Nat.reduceAdd, Nat.reduceMul, Nat.reduceSub, Nat.reduceLeDiff, Nat.reduceBEq, Nat.reduceBNe, reduceIte, reduceDIte, reduceCtorEq]; rfl) ?_ ?_ -- R16
          · first | trivial | omega | (simp; done) | (simp; omega)
          refine k_seq ?_
          refine r_seq ?_
          refine r_cond (by simp only [hT, tab37, lenLV.eq_def, mx0, mx1, mx2, mx3, mx4, mx5, mx6, effOp, endCall, callOp, appendOp, sliceLV, Ty.fieldTy, Ty.fieldOf, Nat.reduceLT, Nat.reduceEqDiff, Nat.reduceAdd, Nat.reduceMul, Nat.reduceSub, Nat.reduceLeDiff, Nat.reduceBEq, Nat.reduceBNe, reduceIte, reduceDIte, reduceCtorEq]; rfl) ?_ ?_
          · intro hb4
            try simp only [decide_eq_true_eq, decide_eq_false_iff_not, beq_iff_eq, bne_iff_ne, Bool.not_eq_true', Bool.and_eq_true] at hb4
            try simp only [nth_gi, nth_row] at hb4
            have hx := lp.inv.stk _ (gi_mem (l := (tj g k (⟨cnt, fnd, stk, dn.toNat, out⟩ : Tj) v j).1.stk) (k := stk.length + i) (by omega))
            refine r_skip ?_
            refine k_seq ?_
            refine r_seq ?_
            refine j_block ?_
            refine r_seq ?_
            show J X _ _ _
            refine r_region hG (by simp only [hT, tab37, lenLV.eq_def, cVisit, mx0, mx1, mx2, mx3, mx4, mx5, mx6, effOp, endCall, callOp, appendOp, sliceLV, Ty.fieldTy, Ty.fieldOf, Nat.reduceLT, Nat.reduceEqDiff, Nat.reduceAdd, Nat.reduceMul, Nat.reduceSub, Nat.reduceLeDiff, Nat.reduceBEq, Nat.reduceBNe, reduceIte, reduceDIte, reduceCtorEq]; rfl) ?_ ?_ -- R17
            · try simp only [and_true, true_and]
              omega
            refine k_seq ?_
            show J X _ _ _
            refine r_region hG (by simp only [hT, tab37, lenLV.eq_def, cVisit, mx0, mx1, mx2, mx3, mx4, mx5, mx6, effOp, endCall, callOp, appendOp, sliceLV, Ty.fieldTy, Ty.fieldOf, Nat.reduceLT, Nat.reduceEqDiff, Nat.reduceAdd, Nat.reduceMul, Nat.reduceSub, Nat.reduceLeDiff, Nat.reduceBEq, Nat.reduceBNe, reduceIte, reduceDIte, reduceCtorEq]; rfl) ?_ ?_ -- R18
            · try simp only [and_true, true_and]
              rw [Int.toNat_natCast]
              exact hx.1
            refine k_block ?_
            refine k_seq ?_
            show J X _ _ _
            refine r_region hG (by simp only [hT, tab37, lenLV.eq_def, cVisit, mx0, mx1, mx2, mx3, mx4, mx5, mx6, effOp, endCall, callOp, appendOp, sliceLV, Ty.fieldTy, Ty.fieldOf, Nat.reduceLT, Nat.reduceEqDiff, Nat.reduceAdd, Nat.reduceMul, Nat.reduceSub, Nat.reduceLeDiff, Nat.reduceBEq, Nat.reduceBNe, reduceIte, reduceDIte, reduceCtorEq]; rfl) ?_ ?_ -- R19
            · first | trivial | omega | (simp; done) | (simp; omega)
            show ∃ z, _
            simp only [ml0, ml1, Nat.reduceLT, Nat.reduceEqDiff, Nat.reduceAdd, Nat.reduceMul, Nat.reduceSub, Nat.reduceLeDiff, Nat.reduceBEq, Nat.reduceBNe, reduceIte, reduceDIte, reduceCtorEq]
            exact ⟨i + 1, mk_put lp.inv.stk n2 (by omega), by rw [wi (by omega) (by omega)]; simp, by omega, by omega⟩
          · intro hb4
            try simp only [decide_eq_true_eq, decide_eq_false_iff_not, beq_eq_false_iff_ne, bne_eq_false_iff_eq, Bool.not_eq_false', Bool.and_eq_false_imp] at hb4
            try simp only [nth_gi, nth_row] at hb4
            refine r_exit ?_
            refine k_seq_exit ?_
            refine k_round_exit ?_
            refine k_block_exit ?_
            refine k_seq ?_
            refine r_seq ?_
            show J X _ _ _
            refine r_region hG (by simp only [hT, tab37, lenLV.eq_def, cVisit, mx0, mx1, mx2, mx3, mx4, mx5, mx6, effOp, endCall, callOp, appendOp, sliceLV, Ty.fieldTy, Ty.fieldOf, Nat.reduceLT, Nat.reduceEqDiff, Nat.reduceAdd, Nat.reduceMul, Nat.reduceSub, Nat.reduceLeDiff, Nat.reduceBEq, Nat.reduceBNe, reduceIte, reduceDIte, reduceCtorEq]; rfl) ?_ ?_ -- R20
            · try simp only [and_true, true_and]
              omega
            refine k_seq ?_
            refine r_seq ?_
            show J X _ _ _
            refine r_region hG (by simp only [hT, tab37, lenLV.eq_def, cVisit, mx0, mx1, mx2, mx3, mx4, mx5, mx6, effOp, endCall, callOp, appendOp, sliceLV, Ty.fieldTy, Ty.fieldOf, Nat.reduceLT, Nat.reduceEqDiff, Nat.reduceAdd, Nat.reduceMul, Nat.reduceSub, Nat.reduceLeDiff, Nat.reduceBEq, Nat.reduceBNe, reduceIte, reduceDIte, reduceCtorEq]; rfl) ?_ ?_ -- R21
            · first | trivial | omega | (simp; done) | (simp; omega)
            refine k_seq ?_
            show J X _ _ _
            refine r_region hG (by simp only [hT, tab37, lenLV.eq_def, cVisit, mx0, mx1, mx2, mx3, mx4, mx5, mx6, effOp, endCall, callOp, appendOp, sliceLV, Ty.fieldTy, Ty.fieldOf, Nat.reduceLT, Nat.reduceEqDiff, Nat.reduceAdd, Nat.reduceMul, Nat.reduceSub, Nat.reduceLeDiff, Nat.reduceBEq, Nat.reduceBNe, reduceIte, reduceDIte, reduceCtorEq]; rfl) ?_ ?_ -- R22
            · try simp only [and_true, true_and]
              exact roomy1 (by omega)
            refine k_seq ?_
            refine r_seq ?_
            show J X _ _ _
            refine r_region hG (by simp only [hT, tab37, lenLV.eq_def, cVisit, mx0, mx1, mx2, mx3, mx4, mx5, mx6, effOp, endCall, callOp, appendOp, sliceLV, Ty.fieldTy, Ty.fieldOf, Nat.reduceLT, Nat.reduceEqDiff, Nat.reduceAdd, Nat.reduceMul, Nat.reduceSub, Nat.reduceLeDiff, Nat.reduceBEq, Nat.reduceBNe, reduceIte, reduceDIte, reduceCtorEq]; rfl) ?_ ?_ -- R23
            · first | trivial | omega | (simp; done) | (simp; omega)
            refine k_seq ?_
            refine r_ret ?_
            refine ⟨[], ?_⟩
            simp only [hT, tab37, mr0, mr1, mr2, isNilP, Nat.reduceLT, Nat.reduceEqDiff, Nat.reduceAdd, Nat.reduceMul, Nat.reduceSub, Nat.reduceLeDiff, Nat.reduceBEq, Nat.reduceBNe, reduceIte, reduceDIte, reduceCtorEq]
            have h := tj_end (g := g) (k := k) (s := (⟨cnt, fnd, stk, dn.toNat, out⟩ : Tj)) (v := v) (j := j) (by omega)
            rw [tclose_a hb3] at h
            have he : mk (List.drop stk.length (tj g k (⟨cnt, fnd, stk, dn.toNat, out⟩ : Tj) v j).1.stk) i = tpart stk.length (tj g k (⟨cnt, fnd, stk, dn.toNat, out⟩ : Tj) v j).1 := mk_end (by rw [List.length_drop]; omega)
            have hl := mk_lt (l := List.drop stk.length (tj g k (⟨cnt, fnd, stk, dn.toNat, out⟩ : Tj) v j).1.stk) (n := g.length) (fun x hx => lp.inv.stk x (List.mem_of_mem_drop hx)) i
            rw [he] at hl ⊢
            rw [h, or64 (Nat.lt_trans m5 (by decide)) (Nat.lt_of_lt_of_le hl (Nat.pow_le_pow_right (by decide) (by omega)))]
            exact ⟨rfl, rfl, rfl, ⟨trivial, rfl⟩, ⟨trivial, rfl⟩, ⟨trivial, rfl⟩⟩
      · intro hb3
        try simp only [decide_eq_true_eq, decide_eq_false_iff_not, beq_eq_false_iff_ne, bne_eq_false_iff_eq, Bool.not_eq_false', Bool.and_eq_false_imp] at hb3
        try simp only [nth_gi, nth_row] at hb3
        refine r_skip ?_
        refine k_seq ?_
        refine r_seq ?_
        show J X _ _ _
        refine r_region hG (by simp only [hT, tab37, lenLV.eq_def, cVisit, mx0, mx1, mx2, mx3, mx4, mx5, mx6, effOp, endCall, callOp, appendOp, sliceLV, Ty.fieldTy, Ty.fieldOf, Nat.reduceLT, Nat.reduceEqDiff, Nat.reduceAdd, Nat.reduceMul, Nat.reduceSub, Nat.reduceLeDiff, Nat.reduceBEq, Nat.reduceBNe, reduceIte, reduceDIte, reduceCtorEq]; rfl) ?_ ?_ -- R23
        · first | trivial | omega | (simp; done) | (simp; omega)
        refine k_seq ?_
        refine r_ret ?_
        refine ⟨[], ?_⟩
        simp only [hT, tab37, mr0, mr1, mr2, isNilP, Nat.reduceLT, Nat.reduceEqDiff, Nat.reduceAdd, Nat.reduceMul, Nat.reduceSub, Nat.reduceLeDiff, Nat.reduceBEq, Nat.reduceBNe, reduceIte, reduceDIte, reduceCtorEq]
        have h := tj_end (g := g) (k := k) (s := (⟨cnt, fnd, stk, dn.toNat, out⟩ : Tj)) (v := v) (j := j) (by omega)
        rw [tclose_b hb3] at h
        rw [h]
        exact ⟨rfl, rfl, rfl, ⟨trivial, rfl⟩, ⟨trivial, rfl⟩, ⟨trivial, rfl⟩⟩

theorem valid37 {B : Base} (hB : Tabs B) : ∀ k, Valid B Tryd.prog 37 (cVisit k) [8, 9]
  | 0 => by
    intro args os C rs os' hc hC
    unfold cVisit at hc
    split at hc
    case h_2 => cases hc
    cases hc
    obtain ⟨_, hv, _, ⟨gray, hp⟩, hw⟩ := hC
    have h1 := white_pos (l := _) (i := _) (by rw [hp.inv.len]; have := hp.node; omega) hp.new
    dsimp only at h1
    omega
  | k + 1 => valid37s hB (valid37 hB k)


end Go.Proofs.YtcopdikdkkdlfaaDoor
end

section
/- The functions of the package graph, one after the other: each meets its contract. -/
set_option linter.unusedSimpArgs false
set_option linter.unusedVariables false
set_option maxRecDepth 100000
namespace Go.Proofs.YtcopdikdkkdlfaaDoor
open Go Go.Cm Go.Cm.Gr Go.Proofs

def tab34 (B : Base) : Tab := { types := [(3, (.int .i64)), (27, (.slice (.slice (.int .i64)))), (30, (.int .u64)), (36, (.slice (.int .i64))), (37, (.slice (.int .u64))), (71, (.st (.slice (.slice (.int .i64))))), (73, (.st (.st (.slice (.slice (.int .i64))))))], elems := [], cons := [], hint := [3000060], N := 61, base := B }
theorem good34 {B : Base} (hB : Tabs B) : MGood Tryd.prog (tab34 B) := ⟨⟨types_cons ty3 (types_cons ty27 (types_cons ty30 (types_cons ty36 (types_cons ty37 (types_cons ty71 (types_cons ty73 (types_nil))))))), elems_nil, by simp only [tab34, ioB]; omega⟩, cons_nil rfl, by kernel_rfl⟩
def cRead : Con := fun l os => match l, os with
  | [.z (.slice (.slice (.int .i64))) g, .z (.slice (.int .u64)) ss], [] => some (g.length ≤ 1000000 ∧ (∀ r ∈ g, r.length ≤ 1000000) ∧ ss.length ≤ 1000000 ∧ ∀ s ∈ ss, U64 s, [.z (.opt (.st (.st (.slice (.slice (.int .i64)))))) (rdV g ss), .z (.int .i64) (rdE g ss)], [])
  | _, _ => none

theorem valid34 {B : Base} (hB : Tabs B) : Valid B Tryd.prog 34 cRead := by
  refine valid_of_J (T := tab34 B) (good34 hB).tab Tryd.func34 rfl rfl rfl ?_
  intro args os C rs os' hc hC
  unfold cRead at hc
  split at hc
  case h_2 => cases hc
  rename_i g ss
  cases hc
  refine ⟨by simp only [List.length_cons, List.length_nil, tab34]; omega, rfl, ?_⟩
  intro X hP hT hr
  have hG : MGood X.P X.T := by rw [hP, hT]; exact good34 hB
  unfold tab34 at hT
  have hX := Bool.not_true
  simp only [Tryd.f34, argEnv, ioList, ioB]
  refine r_seq ?_
  refine q_region hG ?_ ?_ -- R0
  · first | trivial | omega | (simp; done) | (simp; omega)
  refine k_seq ?_
  refine r_seq ?_
  refine r_seq ?_
  refine q_region hG ?_ ?_ -- R1
  · first | trivial | omega | (simp; done) | (simp; omega)
  refine k_seq ?_
  refine q_cond ?_ ?_
  · intro hb0
    simp only [Bool.or_eq_true, Bool.or_eq_false_iff, decide_eq_true_eq, decide_eq_false_iff_not] at hb0
    refine r_seq ?_
    refine q_region hG ?_ ?_ -- R2
    · first | trivial | omega | (simp; done) | (simp; omega)
    refine k_seq ?_
    refine r_ret ?_
    refine k_seq_ret ?_
    refine ⟨[], ?_⟩
    simp only [hT, tab34, mr0, mr1, mr2, isNilP, Nat.reduceLT, Nat.reduceEqDiff, Nat.reduceAdd, Nat.reduceMul, Nat.reduceSub, Nat.reduceLeDiff, Nat.reduceBEq, Nat.reduceBNe, reduceIte, reduceDIte, reduceCtorEq]
    have h0 := rd_bad (ss := ss) (ok_not (g := g) (by omega))
    simp [h0.1, h0.2]
  · intro hb0
    simp only [Bool.or_eq_true, Bool.or_eq_false_iff, decide_eq_true_eq, decide_eq_false_iff_not] at hb0
    refine r_skip ?_
    refine k_seq ?_
    refine r_seq ?_
    refine r_seq ?_
    refine q_region hG ?_ ?_ -- R3
    · first | trivial | omega | (simp; done) | (simp; omega)
    refine k_seq ?_
    refine j_block ?_
    refine j_loop (fun (z : Nat) => (⟨[(0, .l (.z (.slice (.slice (.int .i64))) g)), (1, .l (.z (.slice (.int .u64)) ss)), (4, .l (.z (.opt (.st (.st (.slice (.slice (.int .i64)))))) none)), (5, .l (.z (.int .i64) 0)), (21, .l (.z (.slice (.slice (.int .i64))) g)), (22, .l (.z (.int .i64) (g.length : Int))), (23, .l (.z (.int .i64) (z : Int)))], []⟩ : AState)) (fun z => z ≤ g.length ∧ (g.take z).all (okRow g.length (-1)) = true) (fun z => g.length - z) 0 ?_ ?_ ?_
    · simp only [ml0, ml1, Nat.reduceLT, Nat.reduceEqDiff, Nat.reduceAdd, Nat.reduceMul, Nat.reduceSub, Nat.reduceLeDiff, Nat.reduceBEq, Nat.reduceBNe, reduceIte, reduceDIte, reduceCtorEq]
      exact ⟨rfl, rfl⟩
    · exact ⟨by omega, by simp⟩
    · rintro k ⟨g1, g2⟩
      try dsimp only at g1 g2
      refine r_seq ?_
      refine q_region hG ?_ ?_ -- R4
      · first | trivial | omega | (simp; done) | (simp; omega)
      refine k_seq ?_
      refine r_seq ?_
      refine q_cond ?_ ?_
      · intro hb1
        try simp only [decide_eq_true_eq, decide_eq_false_iff_not, beq_iff_eq, bne_iff_ne, Bool.not_eq_true', Bool.and_eq_true] at hb1
        try simp only [nth_gi, nth_row] at hb1
        refine r_skip ?_
        refine k_seq ?_
        refine r_seq ?_
        refine j_block ?_
        refine r_seq ?_
        refine q_region hG ?_ ?_ -- R5
        · first | trivial | omega | (simp; done) | (simp; omega)
        refine k_seq ?_
        refine r_seq ?_
        refine q_region hG ?_ ?_ -- R6
        · first | trivial | omega | (simp; done) | (simp; omega)
        refine k_seq ?_
        refine r_seq ?_
        refine q_region hG ?_ ?_ -- R7
        · first | trivial | omega | (simp; done) | (simp; omega)
        refine k_seq ?_
        refine j_block ?_
        refine j_loop (fun (z : Nat) => (⟨[(0, .l (.z (.slice (.slice (.int .i64))) g)), (1, .l (.z (.slice (.int .u64)) ss)), (4, .l (.z (.opt (.st (.st (.slice (.slice (.int .i64)))))) none)), (5, .l (.z (.int .i64) 0)), (21, .l (.z (.slice (.slice (.int .i64))) g)), (22, .l (.z (.int .i64) (g.length : Int))), (23, .l (.z (.int .i64) (k : Int))), (27, .l (.z (.slice (.int .i64)) (row' g k))), (28, .l (.z (.int .i64) ((row' g k).length : Int))), (29, .l (.z (.int .i64) (z : Int))), (8, .l (.z (.int .i64) (((row' g k).take z).getLastD (-1))))], []⟩ : AState)) (fun z => z ≤ (row' g k).length ∧ okRow g.length (-1) ((row' g k).take z) = true) (fun z => (row' g k).length - z) 0 ?_ ?_ ?_
        · simp only [ml0, ml1, Nat.reduceLT, Nat.reduceEqDiff, Nat.reduceAdd, Nat.reduceMul, Nat.reduceSub, Nat.reduceLeDiff, Nat.reduceBEq, Nat.reduceBNe, reduceIte, reduceDIte, reduceCtorEq]
          exact ⟨rfl, rfl, rfl, rfl⟩
        · exact ⟨by omega, by simp [okRow]⟩
        · rintro j ⟨g3, g4⟩
          try dsimp only at g3 g4
          have hr := hC.2.1 _ (row_mem' (g := g) (k := k) (by omega))
          refine r_seq ?_
          refine q_region hG ?_ ?_ -- R8
          · first | trivial | omega | (simp; done) | (simp; omega)
          refine k_seq ?_
          refine r_seq ?_
          refine q_cond ?_ ?_
          · intro hb2
            try simp only [decide_eq_true_eq, decide_eq_false_iff_not, beq_iff_eq, bne_iff_ne, Bool.not_eq_true', Bool.and_eq_true] at hb2
            try simp only [nth_gi, nth_row] at hb2
            refine r_skip ?_
            refine k_seq ?_
            refine r_seq ?_
            refine j_block ?_
            refine r_seq ?_
            refine q_region hG ?_ ?_ -- R9
            · first | trivial | omega | (simp; done) | (simp; omega)
            refine k_seq ?_
            refine r_seq ?_
            refine r_seq ?_
            refine q_region hG ?_ ?_ -- R10
            · first | trivial | omega | (simp; done) | (simp; omega)
            refine k_seq ?_
            refine q_cond ?_ ?_
            · intro hb3
              simp only [Bool.or_eq_true, Bool.or_eq_false_iff, decide_eq_true_eq, decide_eq_false_iff_not] at hb3
              simp only [nth_gi] at hb3
              refine r_seq ?_
              refine q_region hG ?_ ?_ -- R11
              · first | trivial | omega | (simp; done) | (simp; omega)
              refine k_seq ?_
              refine r_ret ?_
              refine k_seq_ret ?_
              refine k_block_ret ?_
              refine k_seq_ret ?_
              refine k_round_ret ?_
              refine k_block_ret ?_
              refine k_block_ret ?_
              refine k_seq_ret ?_
              refine k_round_ret ?_
              refine k_block_ret ?_
              refine k_seq_ret ?_
              refine ⟨[], ?_⟩
              simp only [hT, tab34, mr0, mr1, mr2, isNilP, Nat.reduceLT, Nat.reduceEqDiff, Nat.reduceAdd, Nat.reduceMul, Nat.reduceSub, Nat.reduceLeDiff, Nat.reduceBEq, Nat.reduceBNe, reduceIte, reduceDIte, reduceCtorEq]
              have h0 := rd_bad (ss := ss) (bad_at (g := g) (k := k) (j := j) (by omega) (by omega) hb3)
              simp [h0.1, h0.2]
            · intro hb3
              simp only [Bool.or_eq_true, Bool.or_eq_false_iff, decide_eq_true_eq, decide_eq_false_iff_not] at hb3
              simp only [nth_gi] at hb3
              refine r_skip ?_
              refine k_seq ?_
              refine q_region hG ?_ ?_ -- R12
              · first | trivial | omega | (simp; done) | (simp; omega)
              refine k_block ?_
              refine k_seq ?_
              refine q_region hG ?_ ?_ -- R13
              · first | trivial | omega | (simp; done) | (simp; omega)
              show ∃ z, _
              simp only [ml0, ml1, Nat.reduceLT, Nat.reduceEqDiff, Nat.reduceAdd, Nat.reduceMul, Nat.reduceSub, Nat.reduceLeDiff, Nat.reduceBEq, Nat.reduceBNe, reduceIte, reduceDIte, reduceCtorEq]
              exact ⟨j + 1, by rw [wi (by omega) (by omega)]; simp, by rw [nth_gi, lastD_snoc (by omega)], by omega, row_snoc (by omega) g4 (by omega) (by omega), by omega⟩
          · intro hb2
            try simp only [decide_eq_true_eq, decide_eq_false_iff_not, beq_eq_false_iff_ne, bne_eq_false_iff_eq, Bool.not_eq_false', Bool.and_eq_false_imp] at hb2
            try simp only [nth_gi, nth_row] at hb2
            refine r_exit ?_
            refine k_seq_exit ?_
            refine k_round_exit ?_
            refine k_block_exit ?_
            refine k_block ?_
            refine k_seq ?_
            refine q_region hG ?_ ?_ -- R14
            · first | trivial | omega | (simp; done) | (simp; omega)
            show ∃ z, _
            simp only [ml0, ml1, Nat.reduceLT, Nat.reduceEqDiff, Nat.reduceAdd, Nat.reduceMul, Nat.reduceSub, Nat.reduceLeDiff, Nat.reduceBEq, Nat.reduceBNe, reduceIte, reduceDIte, reduceCtorEq]
            exact ⟨k + 1, by rw [wi (by omega) (by omega)]; simp, by omega, by rw [rows_snoc (by omega), g2]; rw [List.take_of_length_le (by omega)] at g4; simpa using g4, by omega⟩
      · intro hb1
        try simp only [decide_eq_true_eq, decide_eq_false_iff_not, beq_eq_false_iff_ne, bne_eq_false_iff_eq, Bool.not_eq_false', Bool.and_eq_false_imp] at hb1
        try simp only [nth_gi, nth_row] at hb1
        have hv : okG g = true := ok_all (by omega) (by omega) (by rw [List.take_of_length_le (by simp at hb1; omega)] at g2; exact g2)
        refine r_exit ?_
        refine k_seq_exit ?_
        refine k_round_exit ?_
        refine k_block_exit ?_
        refine k_seq ?_
        refine r_seq ?_
        refine r_seq ?_
        refine q_region hG ?_ ?_ -- R15
        · first | trivial | omega | (simp; done) | (simp; omega)
        refine k_seq ?_
        refine j_block ?_
        refine j_loop (fun (z : Nat) => (⟨[(0, .l (.z (.slice (.slice (.int .i64))) g)), (1, .l (.z (.slice (.int .u64)) ss)), (4, .l (.z (.opt (.st (.st (.slice (.slice (.int .i64)))))) none)), (5, .l (.z (.int .i64) 0)), (45, .l (.z (.slice (.int .u64)) ss)), (46, .l (.z (.int .i64) (ss.length : Int))), (47, .l (.z (.int .i64) (z : Int)))], []⟩ : AState)) (fun z => z ≤ ss.length ∧ setsOK g (ss.take z) = true) (fun z => ss.length - z) 0 ?_ ?_ ?_
        · simp only [ml0, ml1, Nat.reduceLT, Nat.reduceEqDiff, Nat.reduceAdd, Nat.reduceMul, Nat.reduceSub, Nat.reduceLeDiff, Nat.reduceBEq, Nat.reduceBNe, reduceIte, reduceDIte, reduceCtorEq]
          try rfl
        · exact ⟨by omega, by simp [setsOK]⟩
        · rintro k ⟨g1, g2⟩
          try dsimp only at g1 g2
          refine r_seq ?_
          refine q_region hG ?_ ?_ -- R16
          · first | trivial | omega | (simp; done) | (simp; omega)
          refine k_seq ?_
          refine r_seq ?_
          refine q_cond ?_ ?_
          · intro hb4
            try simp only [decide_eq_true_eq, decide_eq_false_iff_not, beq_iff_eq, bne_iff_ne, Bool.not_eq_true', Bool.and_eq_true] at hb4
            try simp only [nth_gi, nth_row] at hb4
            refine r_skip ?_
            refine k_seq ?_
            refine r_seq ?_
            refine j_block ?_
            refine r_seq ?_
            refine q_region hG ?_ ?_ -- R17
            · first | trivial | omega | (simp; done) | (simp; omega)
            refine k_seq ?_
            refine r_seq ?_
            refine q_region hG ?_ ?_ -- R18
            · first | trivial | omega | (simp; done) | (simp; omega)
            refine k_seq ?_
            refine q_cond ?_ ?_
            · intro hb5
              try simp only [decide_eq_true_eq, decide_eq_false_iff_not, beq_iff_eq, bne_iff_ne, Bool.not_eq_true', Bool.and_eq_true] at hb5
              try simp only [nth_gi, nth_row] at hb5
              refine r_seq ?_
              refine q_region hG ?_ ?_ -- R19
              · first | trivial | omega | (simp; done) | (simp; omega)
              refine k_seq ?_
              refine r_ret ?_
              refine k_block_ret ?_
              refine k_seq_ret ?_
              refine k_round_ret ?_
              refine k_block_ret ?_
              refine k_seq_ret ?_
              refine ⟨[], ?_⟩
              simp only [hT, tab34, mr0, mr1, mr2, isNilP, Nat.reduceLT, Nat.reduceEqDiff, Nat.reduceAdd, Nat.reduceMul, Nat.reduceSub, Nat.reduceLeDiff, Nat.reduceBEq, Nat.reduceBNe, reduceIte, reduceDIte, reduceCtorEq]
              have h0 := rd_bads hv (sets_bad (g := g) (ss := ss) (k := k) (by omega) (by rw [← set_over (hC.2.2.2 _ (gi_mem (k := k) (by omega))) (by omega : g.length ≤ 32)]; exact hb5))
              simp [h0.1, h0.2]
            · intro hb5
              try simp only [decide_eq_true_eq, decide_eq_false_iff_not, beq_eq_false_iff_ne, bne_eq_false_iff_eq, Bool.not_eq_false', Bool.and_eq_false_imp] at hb5
              try simp only [nth_gi, nth_row] at hb5
              refine r_skip ?_
              refine k_block ?_
              refine k_seq ?_
              refine q_region hG ?_ ?_ -- R20
              · first | trivial | omega | (simp; done) | (simp; omega)
              show ∃ z, _
              simp only [ml0, ml1, Nat.reduceLT, Nat.reduceEqDiff, Nat.reduceAdd, Nat.reduceMul, Nat.reduceSub, Nat.reduceLeDiff, Nat.reduceBEq, Nat.reduceBNe, reduceIte, reduceDIte, reduceCtorEq]
              exact ⟨k + 1, by rw [wi (by omega) (by omega)]; simp, by omega, by rw [sets_snoc (by omega), g2]; simp only [Bool.true_and, decide_eq_true_eq]; exact (set_over (hC.2.2.2 _ (gi_mem (k := k) (by omega))) (by omega : g.length ≤ 32)).1 hb5, by omega⟩
          · intro hb4
            try simp only [decide_eq_true_eq, decide_eq_false_iff_not, beq_eq_false_iff_ne, bne_eq_false_iff_eq, Bool.not_eq_false', Bool.and_eq_false_imp] at hb4
            try simp only [nth_gi, nth_row] at hb4
            refine r_exit ?_
            refine k_seq_exit ?_
            refine k_round_exit ?_
            refine k_block_exit ?_
            refine k_seq ?_
            refine r_seq ?_
            refine q_region hG ?_ ?_ -- R21
            · first | trivial | omega | (simp; done) | (simp; omega)
            refine k_seq ?_
            refine r_ret ?_
            refine ⟨[], ?_⟩
            simp only [hT, tab34, mr0, mr1, mr2, isNilP, Nat.reduceLT, Nat.reduceEqDiff, Nat.reduceAdd, Nat.reduceMul, Nat.reduceSub, Nat.reduceLeDiff, Nat.reduceBEq, Nat.reduceBNe, reduceIte, reduceDIte, reduceCtorEq]
            have h0 := rd_good hv (by rw [List.take_of_length_le (by omega)] at g2; exact g2)
            simp [h0.1, h0.2]

def cReadN : Con := nilCon [none, some (.slice (.int .u64))] cRead
theorem valid34n {B : Base} (hB : Tabs B) : Valid B Tryd.prog 34 cReadN := valid_nil _ (valid34 hB)


end Go.Proofs.YtcopdikdkkdlfaaDoor
end

section
/- The library's sort, at sets, by their least node. -/
namespace Go.Proofs
open Go.Shelf
def Tryd.sort_ren : Go.Shelf.Ren := ⟨fun | 6 => 38 | 14 => 50 | 15 => 51 | 20 => 54 | 21 => 55 | 22 => 56 | 23 => 57 | 24 => 58 | 25 => 59 | 26 => 60 | 27 => 61 | 28 => 62 | 29 => 63 | 46 => 65 | 47 => 66 | 48 => 67 | 49 => 68 | 50 => 69 | 57 => 72 | n => n, fun | 0 => 0 | 3 => 3 | 4 => 4 | 5 => 5 | 9 => 9 | 22 => 37 | 24 => 30 | 25 => 75 | 39 => 84 | 45 => 95 | 46 => 96 | 50 => 100 | 53 => 103 | 55 => 29 | 66 => 106 | 70 => 110 | 76 => 116 | 77 => 117 | n => n, fun | n => n⟩
theorem Tryd.sortL : SlLaysF.n6 Tryd.prog Tryd.sort_ren := {
  mixed := by kernel_rfl
  f6 := ⟨Tryd.f38.name, by kernel_rfl, Tryd.func38.trans (congrArg some (by kernel_rfl))⟩
  f14 := ⟨Tryd.f50.name, by kernel_rfl, Tryd.func50.trans (congrArg some (by kernel_rfl))⟩
  f15 := Tryd.func51.trans (congrArg some (by kernel_rfl))
  f20 := ⟨Tryd.f54.name, by kernel_rfl, Tryd.func54.trans (congrArg some (by kernel_rfl))⟩
  f21 := ⟨Tryd.f55.name, by kernel_rfl, Tryd.func55.trans (congrArg some (by kernel_rfl))⟩
  f22 := ⟨Tryd.f56.name, by kernel_rfl, Tryd.func56.trans (congrArg some (by kernel_rfl))⟩
  f23 := ⟨Tryd.f57.name, by kernel_rfl, Tryd.func57.trans (congrArg some (by kernel_rfl))⟩
  f24 := ⟨Tryd.f58.name, by kernel_rfl, Tryd.func58.trans (congrArg some (by kernel_rfl))⟩
  f25 := ⟨Tryd.f59.name, by kernel_rfl, Tryd.func59.trans (congrArg some (by kernel_rfl))⟩
  f26 := ⟨Tryd.f60.name, by kernel_rfl, Tryd.func60.trans (congrArg some (by kernel_rfl))⟩
  f27 := ⟨Tryd.f61.name, by kernel_rfl, Tryd.func61.trans (congrArg some (by kernel_rfl))⟩
  f28 := Tryd.func62.trans (congrArg some (by kernel_rfl))
  f29 := Tryd.func63.trans (congrArg some (by kernel_rfl))
  f46 := ⟨Tryd.f65.name, by kernel_rfl, Tryd.func65.trans (congrArg some (by kernel_rfl))⟩
  f47 := Tryd.func66.trans (congrArg some (by kernel_rfl))
  f48 := Tryd.func67.trans (congrArg some (by kernel_rfl))
  f49 := ⟨Tryd.f68.name, by kernel_rfl, Tryd.func68.trans (congrArg some (by kernel_rfl))⟩
  f50 := ⟨Tryd.f69.name, by kernel_rfl, Tryd.func69.trans (congrArg some (by kernel_rfl))⟩
  f57 := ⟨Tryd.f72.name, by kernel_rfl, Tryd.func72.trans (congrArg some (by kernel_rfl))⟩
  t0 := Tryd.underlying0
  a0 := Tryd.isAgg0
  z0 := Tryd.sizeOf0
  v0 := Tryd.zeroValue0
  t3 := Tryd.underlying3
  a3 := Tryd.isAgg3
  z3 := Tryd.sizeOf3
  v3 := Tryd.zeroValue3
  t4 := Tryd.underlying4
  a4 := Tryd.isAgg4
  z4 := Tryd.sizeOf4
  v4 := Tryd.zeroValue4
  t5 := Tryd.underlying5
  a5 := Tryd.isAgg5
  z5 := Tryd.sizeOf5
  v5 := Tryd.zeroValue5
  t9 := Tryd.underlying9
  a9 := Tryd.isAgg9
  z9 := Tryd.sizeOf9
  v9 := Tryd.zeroValue9
  t22 := Tryd.underlying37
  a22 := Tryd.isAgg37
  z22 := Tryd.sizeOf37
  v22 := Tryd.zeroValue37
  a24 := Tryd.isAgg30
  z24 := Tryd.sizeOf30
  t25 := Tryd.underlying75
  a25 := Tryd.isAgg75
  z25 := Tryd.sizeOf75
  v25 := Tryd.zeroValue75
  t39 := Tryd.underlying84
  a39 := Tryd.isAgg84
  z39 := Tryd.sizeOf84
  v39 := Tryd.zeroValue84
  t45 := Tryd.underlying95
  a45 := Tryd.isAgg95
  z45 := Tryd.sizeOf95
  v45 := Tryd.zeroValue95
  t46 := Tryd.underlying96
  a46 := Tryd.isAgg96
  z46 := Tryd.sizeOf96
  v46 := Tryd.zeroValue96
  t50 := Tryd.underlying100
  a50 := Tryd.isAgg100
  z50 := Tryd.sizeOf100
  v50 := Tryd.zeroValue100
  t53 := Tryd.underlying103
  a53 := Tryd.isAgg103
  z53 := Tryd.sizeOf103
  v53 := Tryd.zeroValue103
  t55 := Tryd.underlying29
  a55 := Tryd.isAgg29
  z55 := Tryd.sizeOf29
  v55 := Tryd.zeroValue29
  t66 := Tryd.underlying106
  a66 := Tryd.isAgg106
  z66 := Tryd.sizeOf106
  v66 := Tryd.zeroValue106
  t70 := Tryd.underlying110
  a70 := Tryd.isAgg110
  z70 := Tryd.sizeOf110
  v70 := Tryd.zeroValue110
  t76 := Tryd.underlying116
  a76 := Tryd.isAgg116
  z76 := Tryd.sizeOf116
  v76 := Tryd.zeroValue116
  t77 := Tryd.underlying117
  a77 := Tryd.isAgg117
  z77 := Tryd.sizeOf117
  v77 := Tryd.zeroValue117
}
open Go.RowKit Go.Lib Go.Sort Go.Cm

/-- A set among the parts. -/
abbrev Pt := Fin (2 ^ 64)
def encP (x : Pt) : Value := .int .u64 (x.1 : Int)
def cfP (x y : Pt) : Int := (Lib.ctz 64 x.1 : Int) - (Lib.ctz 64 y.1 : Int)

theorem ctz_le (x : Pt) : Lib.ctz 64 x.1 ≤ 64 := by
  unfold Lib.ctz
  split
  · exact Nat.le_refl _
  · rename_i h
    exact Nat.le_of_lt (Lib.ctzFrom_spec 64 x.1 (by omega) x.2).choose_spec.2

theorem closure39 (x y : Pt) (W : World) (hT : CtzTab W) : Calls Tryd.prog 39 #[encP x, encP y] W fun e w' => e = .returned (.int .i64 (cfP x y)) ∧ w' = W := by
  have cx : Calls Tryd.prog 22 #[encP x] W fun e w' => e = .returned (.int .i64 (Lib.ctz 64 x.1)) ∧ w' = W := Any7.bits_TrailingZeros64 Tryd.lays22 x.1 x.2 W (fun _ => hT)
  have cy : Calls Tryd.prog 22 #[encP y] W fun e w' => e = .returned (.int .i64 (Lib.ctz 64 y.1)) ∧ w' = W := Any7.bits_TrailingZeros64 Tryd.lays22 y.1 y.2 W (fun _ => hT)
  have hx := ctz_le x
  have hy := ctz_le y
  unfold cfP
  unfold encP at *
  generalize Lib.ctz 64 x.1 = a at *
  generalize Lib.ctz 64 y.1 = b at *
  generalize (x.1 : Int) = m at *
  generalize (y.1 : Int) = n at *
  clear hT
  have hw : IntKind.i64.wrap ((a : Int) - (b : Int)) = (a : Int) - (b : Int) := Gr.wi (by omega) (by omega)
  have e22 : ∀ args w, (callFunc 22 args).run Tryd.prog w = .ok (.enter 22 args) w := enters_of Tryd.func22 (by kernel_rfl) rfl
  go_enter Tryd.func39, Tryd.ntmps39
  go_wp2_with (first | (go_at_fn 22; with_reducible refine cx.mono ?_; rintro e w' ⟨rfl, hw'⟩; rw [hw']) | (go_at_fn 22; with_reducible refine cy.mono ?_; rintro e w' ⟨rfl, hw'⟩; rw [hw']))
  go_ret
  exact ⟨rfl, rfl⟩

theorem sort_block {w : World} {blk off m : Nat} {dk : Array Pt} {os : Array Obj} {b : Nat} (hb : b ≠ blk) (hlt : b < w.heap.size) : (sortWorld encP w blk off m dk os).heap[b]? = w.heap[b]? := by
  have h1 : b < (putRow encP (Sort.ahead w m) blk off dk).heap.size := by simpa [Sort.ahead] using hlt
  show ((putRow encP (Sort.ahead w m) blk off dk).heap ++ os)[b]? = _
  rw [Array.getElem?_append_left h1]
  simp [putRow, mapBlock, Sort.ahead, Array.getElem?_modify, hb, Ne.symm hb]

theorem cmp39 {B : Base} (hB : Tabs B) {w : World} (hw : B.On w) {blk : Nat} (hb : B.n ≤ blk) (off size : Nat) : CmpLays1 Tryd.prog 39 #[] encP cfP blk off size w := by
  intro m os dk hs x y
  have hT : CtzTab (sortWorld encP w blk off m dk os) := by
    by_cases h0 : B.n = 0
    · exact hB _ ⟨by omega, fun b hb => by omega⟩
    · intro j hj
      exact (World.cell?_of_block (a := ⟨0, j, none⟩) (sort_block (b := 0) (by omega) (by have := hw.1; omega))).trans (hB w hw j hj)
  exact (closure39 x y _ hT).mono fun e w' ⟨he, h⟩ => ⟨he, 0, #[], by rw [h]; simp [World.drewN]⟩

theorem ltP (x y : Pt) : ltOf cfP x y = decide (Lib.ctz 64 x.1 < Lib.ctz 64 y.1) := by
  unfold ltOf cfP
  congr 1
  apply propext
  constructor <;> intro h <;> omega
theorem swoP : SWO (ltOf cfP) where
  irrefl x := by rw [ltP]; simp
  trans x y z h1 h2 := by rw [ltP] at *; simp at *; omega
  ntrans x y z h1 h2 := by rw [ltP] at *; simp at *; omega

def sortPt (d : List Pt) : List Pt := d.mergeSort fun x y => !(ltOf cfP) y x
theorem sort_pts {d d' : Array Pt} (hd : ∀ a ∈ d.toList, ∀ b ∈ d.toList, Lib.ctz 64 a.1 = Lib.ctz 64 b.1 → a = b) (hP : PermIn 0 d.size d d') (hS : SortedIn (ltOf cfP) 0 d.size d') : d'.toList = sortPt d.toList := by
  obtain ⟨hsz, _, hperm⟩ := hP
  have e1 : d'.extract 0 d.size = d' := by rw [← hsz]; exact Array.extract_size
  rw [e1, Array.extract_size] at hperm
  refine List.Perm.eq_of_pairwise (le := fun x y => (!(ltOf cfP) y x) = true) ?_ ?_ ?_ (hperm.trans (List.mergeSort_perm _ _).symm)
  · intro a b ha hb h1 h2
    rw [ltP] at h1 h2
    simp at h1 h2
    exact hd a (hperm.mem_iff.1 ha) b ((List.mergeSort_perm _ _).mem_iff.1 hb) (by omega)
  · rw [List.pairwise_iff_getElem]
    intro i j hi hj hij
    have hi' : i < d'.size := by simpa using hi
    have hj' : j < d'.size := by simpa using hj
    have := hS i j (Nat.zero_le _) hij (by omega)
    rw [getElem!_pos d' j hj', getElem!_pos d' i hi'] at this
    simpa using this
  · refine List.pairwise_mergeSort ?_ ?_ _
    · intro a b c h1 h2
      rw [ltP] at *; simp at *; omega
    · intro a b
      rw [ltP, ltP]; simp; omega
end Go.Proofs
end

section
/- The library's sort of sets meets a contract of ours. -/
namespace Go.Proofs
open Go.Shelf Go.RowKit Go.Lib Go.Sort Go.Cm
open Go.Cm.Gr (sortI sortI_len)

def toPt (x : Int) : Pt := ⟨x.toNat % 2 ^ 64, Nat.mod_lt _ (by decide)⟩
theorem toPt_val {x : Int} (h : Gr.U64 x) : ((toPt x).1 : Int) = x := by
  obtain ⟨m, rfl, hm⟩ := h.nat
  show (((m : Int).toNat % 2 ^ 64 : Nat) : Int) = m
  rw [Int.toNat_natCast, Nat.mod_eq_of_lt hm]
theorem toPt_nat {x : Int} (h : Gr.U64 x) : (toPt x).1 = x.toNat := by have := toPt_val h; omega

theorem sort_map {xs : List Int} (h : ∀ x ∈ xs, Gr.U64 x) : sortPt (xs.map toPt) = (sortI xs).map toPt := by
  unfold sortPt sortI
  refine (List.map_mergeSort fun a ha b hb => ?_).symm
  rw [ltP, toPt_nat (h a ha), toPt_nat (h b hb)]
  by_cases hc : Lib.ctz 64 a.toNat ≤ Lib.ctz 64 b.toNat
  · rw [decide_eq_true hc, decide_eq_false (by omega)]; rfl
  · rw [decide_eq_false hc, decide_eq_true (by omega)]; rfl

theorem take_put {d : Array Pt} {cur : Array Value} (h : d.size ≤ cur.size) : (putCells encP 0 d cur).toList.take d.size = d.toList.map encP := by
  apply List.ext_getElem?
  intro i
  by_cases hi : i < d.size
  · have hc : i < cur.size := by omega
    rw [List.getElem?_take, if_pos hi]
    simp [putCells, hi, hc]
  · rw [List.getElem?_eq_none (by simp [putCells]; omega), List.getElem?_eq_none (by simp; omega)]

theorem heap_sort {w : World} {g m : Nat} {d : Array Pt} {os : Array Obj} {cur : Array Value} (hh : w.heap[g]? = some (.cells cur 30 (0, 0))) : (sortWorld encP w g 0 m d os).heap[g]? = some (.cells (putCells encP 0 d cur) 30 (0, 0)) := by
  have hlt := (Array.getElem?_eq_some_iff.1 hh).1
  have h1 : g < (putRow encP (Sort.ahead w m) g 0 d).heap.size := by simpa [Sort.ahead] using hlt
  show ((putRow encP (Sort.ahead w m) g 0 d).heap ++ os)[g]? = _
  rw [Array.getElem?_append_left h1]
  simp [putRow, mapBlock, Sort.ahead, Array.getElem?_modify, hh, onCells]

theorem size_sort {w : World} {g m : Nat} {d : Array Pt} {os : Array Obj} : w.heap.size ≤ (sortWorld encP w g 0 m d os).heap.size := by
  show w.heap.size ≤ ((putRow encP (Sort.ahead w m) g 0 d).heap ++ os).size
  simp [Sort.ahead]

theorem sort_calls {B : Base} (hB : Tabs B) {w : World} (hw : B.On w) {g cap : Nat} (hg : B.n ≤ g) {xs : List Int} {cur : Array Value} (hh : w.heap[g]? = some (.cells cur 30 (0, 0))) (hn : xs.length ≤ 1000000) (hc : xs.length ≤ cur.size) (htk : cur.toList.take xs.length = xs.map (Value.int .u64)) (hu : ∀ x ∈ xs, Gr.U64 x)
    (hd : ∀ a ∈ xs, ∀ b ∈ xs, Lib.ctz 64 a.toNat = Lib.ctz 64 b.toNat → a = b) :
    Calls Tryd.prog 38 #[.slice (some ⟨g, 0, none⟩) xs.length cap, .func (.func 39) #[] #[]] w fun e w' => e = .returned (.tuple #[]) ∧ w'.os = w.os ∧ w'.tape = w.tape ∧ w'.output = w.output ∧ w.heap.size ≤ w'.heap.size ∧ (∀ b, b < w.heap.size → b ≠ g → w'.heap[b]? = w.heap[b]?) ∧
      ∃ cur' : Array Value, w'.heap[g]? = some (.cells cur' 30 (0, 0)) ∧ cur'.size = cur.size ∧ cur'.toList.take xs.length = (sortI xs).map (Value.int .u64) := by
  have hlt := (Array.getElem?_eq_some_iff.1 hh).1
  have eg : ∀ args w, (callFunc 39 args).run Tryd.prog w = .ok (.enter 39 args) w := enters_of Tryd.func39 (by kernel_rfl) rfl
  have henc : ∀ x ∈ xs, encP (toPt x) = Value.int .u64 x := fun x hx => by rw [encP, toPt_val (hu x hx)]
  have hsz : (xs.map toPt).toArray.size = xs.length := by simp
  have hH : Holds encP w g 0 (xs.map toPt).toArray := by
    intro j hj
    rw [hsz] at hj
    have h1 : (cur.toList.take xs.length)[j]? = (xs.map (Value.int .u64))[j]? := by rw [htk]
    rw [List.getElem?_take, if_pos hj] at h1
    have h2 : cur[j]? = some (Value.int .u64 xs[j]) := by
      rw [← Array.getElem?_toList, h1]; simp [hj]
    refine ⟨?_, by simp [World.frozen?, hh]⟩
    rw [getElem!_pos _ j (by rw [hsz]; exact hj)]
    simp [World.cell?, hh, h2, henc xs[j] (List.getElem_mem hj)]
  have hS := Any.slices_SortFunc Tryd.sortL encP (fun _ => rfl) cfP swoP 39 #[] g 0 cap (xs.map toPt).toArray w eg (cmp39 hB hw hg 0 _) hH hlt (by rw [hsz]; omega)
  rw [hsz] at hS
  refine hS.mono ?_
  rintro e w' ⟨he, d', n, os, hp, hs, rfl⟩
  have hdz : d'.size = xs.length := by rw [hp.1, hsz]
  refine ⟨he, rfl, rfl, rfl, size_sort, fun b hb hbg => sort_block hbg hb, putCells encP 0 d' cur, heap_sort hh, by simp [putCells], ?_⟩
  rw [← hdz, take_put (by omega)]
  have hpts := sort_pts (d := (xs.map toPt).toArray) (d' := d') (fun a ha b hb hab => by
    obtain ⟨x, hx, rfl⟩ := List.mem_map.1 ha
    obtain ⟨y, hy, rfl⟩ := List.mem_map.1 hb
    rw [toPt_nat (hu x hx), toPt_nat (hu y hy)] at hab
    rw [hd x hx y hy hab]) (by rw [hsz]; exact hp) (by rw [hsz]; exact hs)
  rw [hpts, sort_map hu, List.map_map]
  refine List.map_congr_left fun x hx => ?_
  exact henc x ((List.mergeSort_perm _ _).mem_iff.1 hx)

def cSort : Con := fun l os => match l, os with
  | [.ownS 10000000, .val f], [.arr (.int .u64) 30 xs] => some (f = .func (.func 39) #[] #[] ∧ xs ≠ [] ∧ xs.length ≤ 1000000 ∧ (∀ x ∈ xs, Gr.U64 x) ∧ (∀ a ∈ xs, ∀ b ∈ xs, Lib.ctz 64 a.toNat = Lib.ctz 64 b.toNat → a = b), [], [.arr (.int .u64) 30 (sortI xs)])
  | _, _ => none

theorem valid38 {B : Base} (hB : Tabs B) : Valid B Tryd.prog 38 cSort := by
  intro args os C rs os' hc hC O w vals ρ0 hOn hIo hO hOI hargs hown hap
  unfold cSort at hc
  split at hc
  case h_2 => cases hc
  rename_i f xs
  cases hc
  obtain ⟨u, v, rfl, hu, hv⟩ := two_vals hargs
  obtain ⟨hf, hne, hn, hU, hd⟩ := hC
  have hv : v = f := hv
  subst hv; subst hf
  obtain ⟨hu0, a, n, c, hu1⟩ := hu
  obtain ⟨hnl, cells, hr, _, h⟩ := own_val (own := ioList ioB [.arr (.int .u64) 30 xs]) hown (id := 10000000) (T := 30) (t := .int .u64) (xs := xs) rfl (hu0.symm.trans hu1)
  have hcs := rep_ints hr
  subst hcs
  subst hnl
  rcases h with ⟨_, h, _⟩ | ⟨g, ha, _, h2, h3, cur, hcur, hsz, htk⟩
  · exact absurd h hne
  subst ha
  have hw1 : (Ty.int IntKind.u64).w = 1 := rfl
  rw [hw1, Nat.mul_one] at hsz htk
  have hlent : lentBlk ρ0 [.arr (.int .u64) 30 xs] g := ⟨(10000000, _), List.mem_cons_self .., by rw [← hu0, hu1]; rfl⟩
  have hblk : ∀ b, lentBlk ρ0 [.arr (.int .u64) 30 xs] b ↔ b = g := by
    intro b
    constructor
    · rintro ⟨p, hp, hb⟩
      simp only [ioList, List.mem_singleton] at hp
      subst hp
      have hb : Blk (ρ0 10000000) b := hb
      rw [← hu0, hu1] at hb
      exact hb.symm
    · rintro rfl; exact hlent
  rw [hu1]
  refine (sort_calls hB hOn (cap := c) (hIo g hlent) hcur hn (by omega) htk hU hd).mono ?_
  rintro e w' ⟨he, o1, o2, o3, o4, o5, cur', hc', hz', ht'⟩
  refine ⟨[], ρ0, he, rfl, ⟨o1, o2, o3, o4, fun k hk hm => o5 k hk (fun e => hm (.inr ((hblk k).2 e)))⟩, fun _ _ => rfl, trivial, trivial, fun p hp => ?_, List.pairwise_singleton _ _, fun b _ h => ?_⟩
  · simp only [ioList, List.mem_singleton] at hp
    subst hp
    refine ⟨(sortI xs).map (Value.int .u64), rep_intsI, by simp [hw1], .inr ⟨g, c, cur', ?_, .inr hlent, hc', by rw [sortI_len]; exact h2, h3, by rw [hz', hsz]; simp [hw1], by rw [sortI_len, hw1, Nat.mul_one]; exact ht'⟩⟩
    show ρ0 10000000 = _
    rw [← hu0, hu1, sortI_len]
  · simp [hotR] at h
end Go.Proofs
end

section
/- The functions of the package graph, one after the other: each meets its contract. -/
set_option linter.unusedSimpArgs false
set_option linter.unusedVariables false
set_option maxRecDepth 100000
namespace Go.Proofs.YtcopdikdkkdlfaaDoor
open Go Go.Cm Go.Cm.Gr Go.Proofs

def tab15 (B : Base) : Tab := { types := [(3, (.int .i64)), (27, (.slice (.slice (.int .i64)))), (30, (.int .u64)), (32, (.int .i64)), (36, (.slice (.int .i64))), (37, (.slice (.int .u64))), (64, (.opt (.st (.st (.slice (.slice (.int .i64))))))), (69, .func)], elems := [(36, 3)], cons := [(34, cReadN), (37, cVisit 32), (38, cSort)], hint := [], N := 42, io := [(38, [0])], frees := [(37, [8, 9])], base := B }
theorem good15 {B : Base} (hB : Tabs B) : MGood Tryd.prog (tab15 B) := ⟨⟨types_cons ty3 (types_cons ty27 (types_cons ty30 (types_cons ty32 (types_cons ty36 (types_cons ty37 (types_cons ty64 (types_cons ty69 (types_nil)))))))), elems_cons (by kernel_rfl) (elems_nil), by simp only [tab15, ioB]; omega⟩, cons_ok (cals_cons (cal_ok Tryd.func34 (by kernel_rfl) rfl (valid34n hB)) (cals_cons (cal_ok Tryd.func37 (by kernel_rfl) rfl ((valid37 hB 32))) (cals_cons (cal_ok Tryd.func38 (by kernel_rfl) rfl (valid38 hB)) (cals_nil)))), by kernel_rfl⟩
def cParts : Con := fun l os => match l, os with
  | [.z (.slice (.slice (.int .i64))) g], [] => some (g.length ≤ 1000000 ∧ (∀ r ∈ g, r.length ≤ 1000000), [.z (.slice (.int .u64)) (if rdE g [] = 0 then partsG g else []), .z (.int .i64) (rdE g [])], [])
  | _, _ => none

set_option maxHeartbeats 1000000 in
theorem valid15 {B : Base} (hB : Tabs B) : Valid B Tryd.prog 15 cParts := by
  refine valid_of_J (T := tab15 B) (good15 hB).tab Tryd.func15 rfl rfl rfl ?_
  intro args os C rs os' hc hC
  unfold cParts at hc
  split at hc
  case h_2 => cases hc
  rename_i g
  cases hc
  refine ⟨by simp only [List.length_cons, List.length_nil, tab15]; omega, rfl, ?_⟩
  intro X hP hT hr
  have hG : MGood X.P X.T := by rw [hP, hT]; exact good15 hB
  unfold tab15 at hT
  have hX := And.intro (@cRead.eq_1) <| And.intro (@cReadN.eq_1) <| And.intro (@cSort.eq_1) <| @cVisit.eq_1
  simp only [Tryd.f15, argEnv, ioList, ioB]
  refine r_seq ?_
  refine q_region hG ?_ ?_ -- R0
  · first | trivial | omega | (simp; done) | (simp; omega)
  refine k_seq ?_
  refine r_seq ?_
  refine q_region hG ?_ ?_ -- R1
  · try simp only [and_true, true_and]
    exact ⟨hC.1, hC.2, by simp⟩
  refine k_seq ?_
  refine r_seq ?_
  refine r_seq ?_
  refine q_region hG ?_ ?_ -- R2
  · first | trivial | omega | (simp; done) | (simp; omega)
  refine k_seq ?_
  refine q_cond ?_ ?_
  · intro hb0
    try simp only [decide_eq_true_eq, decide_eq_false_iff_not, beq_iff_eq, bne_iff_ne, Bool.not_eq_true', Bool.and_eq_true] at hb0
    try simp only [nth_gi, nth_row] at hb0
    refine r_seq ?_
    refine q_region hG ?_ ?_ -- R3
    · first | trivial | omega | (simp; done) | (simp; omega)
    refine k_seq ?_
    refine r_ret ?_
    refine k_seq_ret ?_
    refine ⟨[], ?_⟩
    simp only [hT, tab15, mr0, mr1, mr2, isNilP, Nat.reduceLT, Nat.reduceEqDiff, Nat.reduceAdd, Nat.reduceMul, Nat.reduceSub, Nat.reduceLeDiff, Nat.reduceBEq, Nat.reduceBNe, reduceIte, reduceDIte, reduceCtorEq]
    rw [if_neg hb0]
  · intro hb0
    try simp only [decide_eq_true_eq, decide_eq_false_iff_not, beq_eq_false_iff_ne, bne_eq_false_iff_eq, Bool.not_eq_false', Bool.and_eq_false_imp] at hb0
    try simp only [nth_gi, nth_row] at hb0
    have hb0 : rdE g [] = 0 := by simpa using hb0
    obtain ⟨q1, q2, _⟩ := rd_ok hb0
    have n1 := q2.one
    have n2 := q2.most
    rw [q1]
    refine r_skip ?_
    refine k_seq ?_
    refine r_seq ?_
    refine q_region hG ?_ ?_ -- R4
    · first | trivial | omega | (simp; done) | (simp; omega)
    refine k_seq ?_
    refine r_seq ?_
    refine q_region hG ?_ ?_ -- R5
    · first | trivial | omega | (simp; done) | (simp; omega)
    refine k_seq ?_
    refine r_seq ?_
    refine q_region hG ?_ ?_ -- R6
    · try simp only [and_true, true_and]
      exact room_g q2
    refine k_seq ?_
    refine r_seq ?_
    refine q_region hG ?_ ?_ -- R7
    · first | trivial | omega | (simp; done) | (simp; omega)
    refine k_seq ?_
    refine r_seq ?_
    refine q_region hG ?_ ?_ -- R8
    · first | trivial | omega | (simp; done) | (simp; omega)
    refine k_seq ?_
    refine r_seq ?_
    refine q_region hG ?_ ?_ -- R9
    · first | trivial | omega | (simp; done) | (simp; omega)
    refine k_seq ?_
    refine r_seq ?_
    refine q_region hG ?_ ?_ -- R10
    · first | trivial | omega | (simp; done) | (simp; omega)
    refine k_seq ?_
    refine r_seq ?_
    refine r_seq ?_
    refine q_region hG ?_ ?_ -- R11
    · first | trivial | omega | (simp; done) | (simp; omega)
    refine k_seq ?_
    refine j_block ?_
    refine j_loop (fun (z : Nat) => (⟨[(0, .l (.z (.slice (.slice (.int .i64))) g)), (2, .l (.val (.slice none 0 0))), (3, .l (.z (.int .i64) 0)), (4, .l (.ownP 4 0)), (6, .l (.ownP 6 0)), (7, .l (.ownP 7 0)), (8, .l (.ownP 8 0)), (9, .l (.ownP 9 0)), (10, .l (.ownP 10 0)), (11, .l (.ownP 11 0)), (25, .l (.z (.slice (.slice (.int .i64))) g)), (26, .l (.z (.int .i64) (g.length : Int))), (27, .l (.z (.int .i64) (z : Int)))], [(4, .box 64 [.z (.opt (.st (.st (.slice (.slice (.int .i64)))))) (some g)]), (6, .box 37 [.ownS 100]), (100, .arr (.int .u64) 30 (tall g z).out), (7, .box 36 [.ownS 101]), (101, .arr (.int .i64) 3 (tall g z).stk), (8, .box 36 [.ownS 23]), (23, .arr (.int .i64) 3 (tall g z).fnd), (9, .box 30 [.z (.int .u64) ((tall g z).dn : Int)]), (10, .box 3 [.z (.int .i64) (tall g z).cnt]), (11, .box 69 [.fn 37 [.p 10, .p 8, .p 7, .p 4, .p 11, .p 9, .p 6]])]⟩ : AState)) (fun z => z ≤ g.length) (fun z => g.length - z) 0 ?_ ?_ ?_
    · simp only [ml0, ml1, Nat.reduceLT, Nat.reduceEqDiff, Nat.reduceAdd, Nat.reduceMul, Nat.reduceSub, Nat.reduceLeDiff, Nat.reduceBEq, Nat.reduceBNe, reduceIte, reduceDIte, reduceCtorEq]
      exact ⟨rfl, by decide, rfl, by decide, rfl, by rw [Int.toNat_natCast]; rfl, rfl, rfl⟩
    · omega
    · rintro k g1
      try dsimp only at g1
      refine r_seq ?_
      refine q_region hG ?_ ?_ -- R12
      · first | trivial | omega | (simp; done) | (simp; omega)
      refine k_seq ?_
      refine r_seq ?_
      refine q_cond ?_ ?_
      · intro hb1
        try simp only [decide_eq_true_eq, decide_eq_false_iff_not, beq_iff_eq, bne_iff_ne, Bool.not_eq_true', Bool.and_eq_true] at hb1
        try simp only [nth_gi, nth_row] at hb1
        have hk : k < g.length := by omega
        obtain ⟨i1, i2⟩ := tall_inv q2 k (by omega)
        obtain ⟨m1, m2, m3, m4, m5, m6⟩ := i1.lim q2
        refine r_skip ?_
        refine k_seq ?_
        refine r_seq ?_
        refine j_block ?_
        refine r_seq ?_
        refine q_region hG ?_ ?_ -- R13
        · first | trivial | omega | (simp; done) | (simp; omega)
        refine k_seq ?_
        refine r_seq ?_
        refine q_region hG ?_ ?_ -- R14
        · try simp only [and_true, true_and]
          exact idx1 m6 (by omega) (by omega)
        refine k_seq ?_
        refine q_cond ?_ ?_
        · intro hb2
          try simp only [decide_eq_true_eq, decide_eq_false_iff_not, beq_iff_eq, bne_iff_ne, Bool.not_eq_true', Bool.and_eq_true] at hb2
          try simp only [nth_gi, nth_row] at hb2
          refine q_region hG ?_ ?_ -- R15
          · try simp only [and_true, true_and]
            exact ⟨q2, Int.natCast_nonneg _, ⟨[], by rw [Int.toNat_natCast]; exact tall_pre q2 hk (by rwa [Int.toNat_natCast] at hb2)⟩, white32 q2 i1⟩
          refine k_block ?_
          refine k_seq ?_
          refine q_region hG ?_ ?_ -- R16
          · first | trivial | omega | (simp; done) | (simp; omega)
          show ∃ z, _
          simp only [ml0, ml1, Nat.reduceLT, Nat.reduceEqDiff, Nat.reduceAdd, Nat.reduceMul, Nat.reduceSub, Nat.reduceLeDiff, Nat.reduceBEq, Nat.reduceBNe, reduceIte, reduceDIte, reduceCtorEq]
          rw [Int.toNat_natCast] at hb2
          first | (have ht := tall_t hb2; simp only [Int.toNat_natCast]; exact ⟨k + 1, by rw [wi (by omega) (by omega)]; simp, by rw [ht], by rw [ht], by rw [ht], by rw [ht], by rw [ht], by omega, by omega⟩) | (have ht := tall_f hb2; exact ⟨k + 1, by rw [wi (by omega) (by omega)]; simp, by rw [ht], by rw [ht], by rw [ht], by rw [ht], by rw [ht], by omega, by omega⟩)
        · intro hb2
          try simp only [decide_eq_true_eq, decide_eq_false_iff_not, beq_eq_false_iff_ne, bne_eq_false_iff_eq, Bool.not_eq_false', Bool.and_eq_false_imp] at hb2
          try simp only [nth_gi, nth_row] at hb2
          refine r_skip ?_
          refine k_block ?_
          refine k_seq ?_
          refine q_region hG ?_ ?_ -- R16
          · first | trivial | omega | (simp; done) | (simp; omega)
          show ∃ z, _
          simp only [ml0, ml1, Nat.reduceLT, Nat.reduceEqDiff, Nat.reduceAdd, Nat.reduceMul, Nat.reduceSub, Nat.reduceLeDiff, Nat.reduceBEq, Nat.reduceBNe, reduceIte, reduceDIte, reduceCtorEq]
          rw [Int.toNat_natCast] at hb2
          first | (have ht := tall_t hb2; simp only [Int.toNat_natCast]; exact ⟨k + 1, by rw [wi (by omega) (by omega)]; simp, by rw [ht], by rw [ht], by rw [ht], by rw [ht], by rw [ht], by omega, by omega⟩) | (have ht := tall_f hb2; exact ⟨k + 1, by rw [wi (by omega) (by omega)]; simp, by rw [ht], by rw [ht], by rw [ht], by rw [ht], by rw [ht], by omega, by omega⟩)
      · intro hb1
        try simp only [decide_eq_true_eq, decide_eq_false_iff_not, beq_eq_false_iff_ne, bne_eq_false_iff_eq, Bool.not_eq_false', Bool.and_eq_false_imp] at hb1
        try simp only [nth_gi, nth_row] at hb1
        refine r_exit ?_
        refine k_seq_exit ?_
        refine k_round_exit ?_
        refine k_block_exit ?_
        refine k_seq ?_
        refine r_seq ?_
        refine q_region hG ?_ ?_ -- R17
        · try simp only [and_true, true_and]
          have hk : k = g.length := by omega
          rw [hk]
          exact out_lims q2
        refine k_seq ?_
        refine r_seq ?_
        refine q_region hG ?_ ?_ -- R18
        · first | trivial | omega | (simp; done) | (simp; omega)
        refine k_seq ?_
        refine r_ret ?_
        refine ⟨[], ?_⟩
        simp only [hT, tab15, mr0, mr1, mr2, isNilP, Nat.reduceLT, Nat.reduceEqDiff, Nat.reduceAdd, Nat.reduceMul, Nat.reduceSub, Nat.reduceLeDiff, Nat.reduceBEq, Nat.reduceBNe, reduceIte, reduceDIte, reduceCtorEq]
        have hk : k = g.length := by omega
        rw [if_pos hb0, hb0, hk, sort_parts q2]
        exact ⟨rfl, rfl⟩

end Go.Proofs.YtcopdikdkkdlfaaDoor
end

section
/- The functions of the package graph, one after the other: each meets its contract. -/
set_option linter.unusedSimpArgs false
set_option linter.unusedVariables false
set_option maxRecDepth 100000
namespace Go.Proofs.YtcopdikdkkdlfaaDoor
open Go Go.Cm Go.Cm.Gr Go.Proofs

def tab41 (B : Base) : Tab := { types := [(3, (.int .i64)), (4, .bool), (27, (.slice (.slice (.int .i64)))), (30, (.int .u64)), (36, (.slice (.int .i64)))], elems := [], cons := [], hint := [], N := 25, base := B }
theorem good41 {B : Base} (hB : Tabs B) : MGood Tryd.prog (tab41 B) := ⟨⟨types_cons ty3 (types_cons ty4 (types_cons ty27 (types_cons ty30 (types_cons ty36 (types_nil))))), elems_nil, by simp only [tab41, ioB]; omega⟩, cons_nil rfl, by kernel_rfl⟩
def cClosed : Con := fun l os => match l, os with
  | [.z (.int .u64) p, .z (.ptr (.slice (.slice (.int .i64)))) g], [] => some (Val g ∧ U64 p ∧ p.toNat < 2 ^ g.length, [.z .bool (closedB g p.toNat)], [])
  | _, _ => none

theorem valid41 {B : Base} (hB : Tabs B) : Valid B Tryd.prog 41 cClosed := by
  refine valid_of_J (T := tab41 B) (good41 hB).tab Tryd.func41 rfl rfl rfl ?_
  intro args os C rs os' hc hC
  unfold cClosed at hc
  split at hc
  case h_2 => cases hc
  rename_i p g
  cases hc
  refine ⟨by simp only [List.length_cons, List.length_nil, tab41]; omega, rfl, ?_⟩
  intro X hP hT hr
  have hG : MGood X.P X.T := by rw [hP, hT]; exact good41 hB
  unfold tab41 at hT
  have hX := Bool.not_true
  simp only [Tryd.f41, argEnv, ioList, ioB]
  refine r_seq ?_
  obtain ⟨hv, hu, hs⟩ := hC
  have h64 := hu.lt
  have n1 := hv.one
  have n2 := hv.most
  refine q_region hG ?_ ?_ -- R0
  · first | trivial | omega | (simp; done) | (simp; omega)
  refine k_seq ?_
  refine r_seq ?_
  refine r_seq ?_
  refine r_newfn hG (pre := [_]) (o := _) rfl (by simp only [hT, tab41, mx0, mx1, mx2, mx3, mx4, mx5, mx6, effOp, endCall, callOp, appendOp, sliceLV, Ty.fieldTy, Ty.fieldOf, Nat.reduceLT, Nat.reduceEqDiff, Nat.reduceAdd, Nat.reduceMul, Nat.reduceSub, Nat.reduceLeDiff, Nat.reduceBEq, Nat.reduceBNe, reduceIte, reduceDIte, reduceCtorEq]; rfl) trivial rfl rfl rfl rfl rfl (by rw [hT]; rfl) (by decide) (by rw [hP]; exact Tryd.func42) (by rfl) (by rfl) (by rw [hP]; exact new42) (by simp only [hT, tab41, mx0, mx1, mx2, mx3, mx4, mx5, mx6, effOp, endCall, callOp, appendOp, sliceLV, Ty.fieldTy, Ty.fieldOf, Nat.reduceLT, Nat.reduceEqDiff, Nat.reduceAdd, Nat.reduceMul, Nat.reduceSub, Nat.reduceLeDiff, Nat.reduceBEq, Nat.reduceBNe, reduceIte, reduceDIte, reduceCtorEq]; rfl) (by simp only [hT, tab41, mx0, mx1, mx2, mx3, mx4, mx5, mx6, effOp, endCall, callOp, appendOp, sliceLV, Ty.fieldTy, Ty.fieldOf, Nat.reduceLT, Nat.reduceEqDiff, Nat.reduceAdd, Nat.reduceMul, Nat.reduceSub, Nat.reduceLeDiff, Nat.reduceBEq, Nat.reduceBNe, reduceIte, reduceDIte, reduceCtorEq]; rfl) ?_ -- R1
  refine k_seq ?_
  refine j_block ?_
  refine j_rangeB hr (gf := 52) (id := 1064) (T := 30) (cs := [.z (.int .u64) p]) (items := nodeItems p.toNat) (by simp only [hT, tab41, mx0, mx1, mx2, mx3, mx4, mx5, mx6, effOp, endCall, callOp, appendOp, sliceLV, Ty.fieldTy, Ty.fieldOf, Nat.reduceLT, Nat.reduceEqDiff, Nat.reduceAdd, Nat.reduceMul, Nat.reduceSub, Nat.reduceLeDiff, Nat.reduceBEq, Nat.reduceBNe, reduceIte, reduceDIte, reduceCtorEq]; try rfl) (by simp only [hT, tab41, mx0, mx1, mx2, mx3, mx4, mx5, mx6, effOp, endCall, callOp, appendOp, sliceLV, Ty.fieldTy, Ty.fieldOf, Nat.reduceLT, Nat.reduceEqDiff, Nat.reduceAdd, Nat.reduceMul, Nat.reduceSub, Nat.reduceLeDiff, Nat.reduceBEq, Nat.reduceBNe, reduceIte, reduceDIte, reduceCtorEq]; try rfl) (by rw [hP, hT]; exact seq52 hB hu) (by rfl) [1, 2, 3] (by rfl) (by simp only [hT, tab41]; try rfl) (fun (k : Nat) (z : Unit) => (⟨[(1, .l (.z (.ptr (.slice (.slice (.int .i64)))) g)), (2, .l (.z (.ptr (.int .u64)) p)), (3, .l (.ownP 3 0))], [(3, .box 4 [.z .bool false])]⟩ : AState)) (fun (k : Nat) (z : Unit) => ((nodesL p.toNat).take k).all (rowIn g p.toNat) = true) () ?_ (by rfl) ?_ ?_ ?_ ?_
  · simp only [ml0, ml1, Nat.reduceLT, Nat.reduceEqDiff, Nat.reduceAdd, Nat.reduceMul, Nat.reduceSub, Nat.reduceLeDiff, Nat.reduceBEq, Nat.reduceBNe, reduceIte, reduceDIte, reduceCtorEq]
  · rfl
  · intro k z; rfl
  · intro k hk
    rintro ⟨⟩ g1
    try dsimp only at g1
    have hk2 : k < (nodesL p.toNat).length := by simpa [nodeItems] using hk
    have e7 := row_len hv (Lib.ctz 64 (rst p.toNat k))
    have hcl := ctz_lt h64 hs hk2
    refine ⟨_, by simp only [hT, tab41, nodeItems, nodeItem, mx0, mx1, mx2, mx3, mx4, mx5, mx6, effOp, endCall, callOp, appendOp, sliceLV, Ty.fieldTy, Ty.fieldOf, Nat.reduceLT, Nat.reduceEqDiff, Nat.reduceAdd, Nat.reduceMul, Nat.reduceSub, Nat.reduceLeDiff, Nat.reduceBEq, Nat.reduceBNe, reduceIte, reduceDIte, reduceCtorEq, List.getElem_map, List.getElem_range]; rfl, ?_⟩
    intro X' hP' hT'
    have hG' : MGood X'.P X'.T := by rw [hP', hT']; exact hG.keep _
    rw [hT] at hT'
    refine j_block ?_
    refine r_seq ?_
    refine q_region' hG' ?_ ?_ -- R3
    · try simp only [and_true, true_and]
      omega
    refine k_seq ?_
    refine j_block ?_
    refine j_loop (fun (z : Nat) => (⟨[(1, .l (.z (.ptr (.slice (.slice (.int .i64)))) g)), (2, .l (.z (.ptr (.int .u64)) p)), (3, .l (.ownP 3 0)), (13, .l (.z (.slice (.int .i64)) (row g (Lib.ctz 64 (rst p.toNat k))))), (14, .l (.z (.int .i64) ((row g (Lib.ctz 64 (rst p.toNat k))).length : Int))), (15, .l (.z (.int .i64) (z : Int)))], [(3, .box 4 [.z .bool false])]⟩ : AState)) (fun z => z ≤ (row g (Lib.ctz 64 (rst p.toNat k))).length ∧ ((row g (Lib.ctz 64 (rst p.toNat k))).take z).all (fun w => p.toNat.testBit w.toNat) = true) (fun z => (row g (Lib.ctz 64 (rst p.toNat k))).length - z) 0 ?_ ?_ ?_
    · simp only [ml0, ml1, Nat.reduceLT, Nat.reduceEqDiff, Nat.reduceAdd, Nat.reduceMul, Nat.reduceSub, Nat.reduceLeDiff, Nat.reduceBEq, Nat.reduceBNe, reduceIte, reduceDIte, reduceCtorEq]
      exact ⟨rfl, rfl, rfl⟩
    · exact ⟨by omega, rfl⟩
    · rintro j ⟨g2, g3⟩
      try dsimp only at g2 g3
      refine r_seq ?_
      refine q_region' hG' ?_ ?_ -- R4
      · first | trivial | omega | (simp; done) | (simp; omega)
      refine k_seq ?_
      refine r_seq ?_
      refine q_cond ?_ ?_
      · intro hb0
        try simp only [decide_eq_true_eq, decide_eq_false_iff_not, beq_iff_eq, bne_iff_ne, Bool.not_eq_true', Bool.and_eq_true] at hb0
        try simp only [nth_gi, nth_row] at hb0
        refine r_skip ?_
        refine k_seq ?_
        refine r_seq ?_
        refine j_block ?_
        refine r_seq ?_
        refine q_region' hG' ?_ ?_ -- R5
        · try simp only [and_true, true_and]
          omega
        refine k_seq ?_
        refine r_seq ?_
        refine q_region' hG' ?_ ?_ -- R6
        · try simp only [and_true, true_and]
          have hj : j < (row g (Lib.ctz 64 (rst p.toNat k))).length := by omega
          obtain ⟨w1, w2⟩ := row_at' hv hj
          exact w1
        refine k_seq ?_
        refine q_cond ?_ ?_
        · intro hb1
          try simp only [decide_eq_true_eq, decide_eq_false_iff_not, beq_iff_eq, bne_iff_ne, Bool.not_eq_true', Bool.and_eq_true] at hb1
          try simp only [nth_gi, nth_row] at hb1
          refine r_seq ?_
          refine q_region' hG' ?_ ?_ -- R7
          · first | trivial | omega | (simp; done) | (simp; omega)
          refine k_seq ?_
          refine r_ret ?_
          refine k_block_ret ?_
          refine k_seq_ret ?_
          refine k_round_ret ?_
          refine k_block_ret ?_
          refine k_block_ret ?_
          refine ⟨(⟨[(1, .l (.z (.ptr (.slice (.slice (.int .i64)))) g)), (2, .l (.z (.ptr (.int .u64)) p)), (3, .l (.ownP 3 0))], [(3, .box 4 [.z .bool false])]⟩ : AState), ?_, rfl, ?_⟩
          · simp only [ml0, ml1, Nat.reduceLT, Nat.reduceEqDiff, Nat.reduceAdd, Nat.reduceMul, Nat.reduceSub, Nat.reduceLeDiff, Nat.reduceBEq, Nat.reduceBNe, reduceIte, reduceDIte, reduceCtorEq]
          refine k_block_ret ?_
          refine k_seq_ret ?_
          refine ⟨[], ?_⟩
          simp only [hT, tab41, mr0, mr1, mr2, isNilP, Nat.reduceLT, Nat.reduceEqDiff, Nat.reduceAdd, Nat.reduceMul, Nat.reduceSub, Nat.reduceLeDiff, Nat.reduceBEq, Nat.reduceBNe, reduceIte, reduceDIte, reduceCtorEq]
          have hj : j < (row g (Lib.ctz 64 (rst p.toNat k))).length := by omega
          obtain ⟨w1, w2⟩ := row_at' hv hj
          exact (nodes_in_bad h64 hk2 (rowIn_bad hj (bit_p0 hu (v := (gi (row g (Lib.ctz 64 (rst p.toNat k))) j).toNat) (by omega) hb1))).symm
        · intro hb1
          try simp only [decide_eq_true_eq, decide_eq_false_iff_not, beq_eq_false_iff_ne, bne_eq_false_iff_eq, Bool.not_eq_false', Bool.and_eq_false_imp] at hb1
          try simp only [nth_gi, nth_row] at hb1
          refine r_skip ?_
          refine k_block ?_
          refine k_seq ?_
          refine q_region' hG' ?_ ?_ -- R8
          · first | trivial | omega | (simp; done) | (simp; omega)
          show ∃ z, _
          simp only [ml0, ml1, Nat.reduceLT, Nat.reduceEqDiff, Nat.reduceAdd, Nat.reduceMul, Nat.reduceSub, Nat.reduceLeDiff, Nat.reduceBEq, Nat.reduceBNe, reduceIte, reduceDIte, reduceCtorEq]
          have hj : j < (row g (Lib.ctz 64 (rst p.toNat k))).length := by omega
          obtain ⟨w1, w2⟩ := row_at' hv hj
          exact ⟨j + 1, by rw [wi (by omega) (by omega)]; simp, by omega, by rw [rowIn_snoc hj, g3, bit_p1 hu (v := (gi (row g (Lib.ctz 64 (rst p.toNat k))) j).toNat) (by omega) hb1]; rfl, by omega⟩
      · intro hb0
        try simp only [decide_eq_true_eq, decide_eq_false_iff_not, beq_eq_false_iff_ne, bne_eq_false_iff_eq, Bool.not_eq_false', Bool.and_eq_false_imp] at hb0
        try simp only [nth_gi, nth_row] at hb0
        refine r_exit ?_
        refine k_seq_exit ?_
        refine k_round_exit ?_
        refine k_block_exit ?_
        refine k_block ?_
        show ∃ z, _
        simp only [ml0, ml1, Nat.reduceLT, Nat.reduceEqDiff, Nat.reduceAdd, Nat.reduceMul, Nat.reduceSub, Nat.reduceLeDiff, Nat.reduceBEq, Nat.reduceBNe, reduceIte, reduceDIte, reduceCtorEq]
        rw [nodes_in_snoc h64 hk2, g1, ← rowIn_end (j := j) (by omega), g3]; rfl
  · rintro ⟨⟩ g1
    try dsimp only at g1
    have hl : (nodeItems p.toNat).length = (nodesL p.toNat).length := by simp [nodeItems]
    refine k_block ?_
    refine k_seq ?_
    refine r_seq ?_
    refine q_region hG ?_ ?_ -- R9
    · first | trivial | omega | (simp; done) | (simp; omega)
    refine k_seq ?_
    refine r_ret ?_
    refine ⟨[], ?_⟩
    simp only [hT, tab41, mr0, mr1, mr2, isNilP, Nat.reduceLT, Nat.reduceEqDiff, Nat.reduceAdd, Nat.reduceMul, Nat.reduceSub, Nat.reduceLeDiff, Nat.reduceBEq, Nat.reduceBNe, reduceIte, reduceDIte, reduceCtorEq]
    rw [hl, List.take_of_length_le (Nat.le_refl _)] at g1
    exact (g1 : closedB g p.toNat = true).symm

end Go.Proofs.YtcopdikdkkdlfaaDoor
end

section
/- The functions of the package graph, one after the other: each meets its contract. -/
set_option linter.unusedSimpArgs false
set_option linter.unusedVariables false
set_option maxRecDepth 100000
namespace Go.Proofs.YtcopdikdkkdlfaaDoor
open Go Go.Cm Go.Cm.Gr Go.Proofs

def tab40 (B : Base) : Tab := { types := [(3, (.int .i64)), (30, (.int .u64)), (37, (.slice (.int .u64)))], elems := [(37, 30)], cons := [(41, cClosed)], hint := [], N := 23, base := B }
theorem good40 {B : Base} (hB : Tabs B) : MGood Tryd.prog (tab40 B) := ⟨⟨types_cons ty3 (types_cons ty30 (types_cons ty37 (types_nil))), elems_cons (by kernel_rfl) (elems_nil), by simp only [tab40, ioB]; omega⟩, cons_ok (cals_cons (cal_ok Tryd.func41 (by kernel_rfl) rfl (valid41 hB)) (cals_nil)), by kernel_rfl⟩
def cFilter : Con := fun l os => match l, os with
  | [.z (.slice (.int .u64)) l, .fn f [.z (.ptr (.slice (.slice (.int .i64)))) g]], [] => some (f = 41 ∧ Val g ∧ l.length ≤ 1000 ∧ ∀ x ∈ l, U64 x ∧ x.toNat < 2 ^ g.length, [.z (.slice (.int .u64)) (l.filter fun x => closedB g x.toNat)], [])
  | _, _ => none

theorem valid40 {B : Base} (hB : Tabs B) : Valid B Tryd.prog 40 cFilter := by
  refine valid_of_J (T := tab40 B) (good40 hB).tab Tryd.func40 rfl rfl rfl ?_
  intro args os C rs os' hc hC
  unfold cFilter at hc
  split at hc
  case h_2 => cases hc
  rename_i l f g
  cases hc
  refine ⟨by simp only [List.length_cons, List.length_nil, tab40]; omega, rfl, ?_⟩
  intro X hP hT hr
  have hG : MGood X.P X.T := by rw [hP, hT]; exact good40 hB
  unfold tab40 at hT
  have hX := @cClosed.eq_1
  simp only [Tryd.f40, argEnv, ioList, ioB]
  refine r_seq ?_
  obtain ⟨hf, hv, hl, hx⟩ := hC
  subst hf
  refine q_region hG ?_ ?_ -- R0
  · first | trivial | omega | (simp; done) | (simp; omega)
  refine k_seq ?_
  refine r_seq ?_
  refine q_region hG ?_ ?_ -- R1
  · first | trivial | omega | (simp; done) | (simp; omega)
  refine k_seq ?_
  refine r_seq ?_
  refine r_seq ?_
  refine q_region hG ?_ ?_ -- R2
  · first | trivial | omega | (simp; done) | (simp; omega)
  refine k_seq ?_
  refine j_block ?_
  refine j_loop (fun (z : Nat) => (⟨[(0, .l (.z (.slice (.int .u64)) l)), (1, .l (.fn 41 [.z (.ptr (.slice (.slice (.int .i64)))) g])), (4, .l (.val (.slice none 0 0))), (5, .l (.ownS 100)), (8, .l (.z (.slice (.int .u64)) l)), (9, .l (.z (.int .i64) (l.length : Int))), (10, .l (.z (.int .i64) (z : Int)))], [(100, .arr (.int .u64) 30 ((l.take z).filter fun x => closedB g x.toNat))]⟩ : AState)) (fun z => z ≤ l.length) (fun z => l.length - z) 0 ?_ ?_ ?_
  · simp only [ml0, ml1, Nat.reduceLT, Nat.reduceEqDiff, Nat.reduceAdd, Nat.reduceMul, Nat.reduceSub, Nat.reduceLeDiff, Nat.reduceBEq, Nat.reduceBNe, reduceIte, reduceDIte, reduceCtorEq]
    exact ⟨rfl, by decide, rfl⟩
  · omega
  · rintro k g1
    try dsimp only at g1
    refine r_seq ?_
    refine q_region hG ?_ ?_ -- R3
    · first | trivial | omega | (simp; done) | (simp; omega)
    refine k_seq ?_
    refine r_seq ?_
    refine q_cond ?_ ?_
    · intro hb0
      try simp only [decide_eq_true_eq, decide_eq_false_iff_not, beq_iff_eq, bne_iff_ne, Bool.not_eq_true', Bool.and_eq_true] at hb0
      try simp only [nth_gi, nth_row] at hb0
      refine r_skip ?_
      refine k_seq ?_
      refine r_seq ?_
      refine j_block ?_
      refine r_seq ?_
      refine q_region hG ?_ ?_ -- R4
      · try simp only [and_true, true_and]
        omega
      refine k_seq ?_
      refine r_seq ?_
      refine q_region hG ?_ ?_ -- R5
      · try simp only [and_true, true_and]
        have hm := hx _ (gi_mem (l := l) (k := k) (by omega))
        exact ⟨hv, hm⟩
      refine k_seq ?_
      refine q_cond ?_ ?_
      · intro hb1
        try simp only [decide_eq_true_eq, decide_eq_false_iff_not, beq_iff_eq, bne_iff_ne, Bool.not_eq_true', Bool.and_eq_true] at hb1
        try simp only [nth_gi, nth_row] at hb1
        refine q_region hG ?_ ?_ -- R6
        · try simp only [and_true, true_and]
          exact roomy1 (Nat.le_trans (Nat.succ_le_succ filter_len) (Nat.le_trans (Nat.succ_le_succ hl) (by decide)))
        refine k_block ?_
        refine k_seq ?_
        refine q_region hG ?_ ?_ -- R7
        · first | trivial | omega | (simp; done) | (simp; omega)
        show ∃ z, _
        simp only [ml0, ml1, Nat.reduceLT, Nat.reduceEqDiff, Nat.reduceAdd, Nat.reduceMul, Nat.reduceSub, Nat.reduceLeDiff, Nat.reduceBEq, Nat.reduceBNe, reduceIte, reduceDIte, reduceCtorEq]
        first | exact ⟨k + 1, by rw [wi (by omega) (by omega)]; simp, by rw [nth_gi, filter_t (p := fun x => closedB g x.toNat) (by omega) hb1], by omega, by omega⟩ | exact ⟨k + 1, by rw [wi (by omega) (by omega)]; simp, by rw [filter_f (p := fun x => closedB g x.toNat) (by omega) hb1], by omega, by omega⟩
      · intro hb1
        try simp only [decide_eq_true_eq, decide_eq_false_iff_not, beq_eq_false_iff_ne, bne_eq_false_iff_eq, Bool.not_eq_false', Bool.and_eq_false_imp] at hb1
        try simp only [nth_gi, nth_row] at hb1
        refine r_skip ?_
        refine k_block ?_
        refine k_seq ?_
        refine q_region hG ?_ ?_ -- R7
        · first | trivial | omega | (simp; done) | (simp; omega)
        show ∃ z, _
        simp only [ml0, ml1, Nat.reduceLT, Nat.reduceEqDiff, Nat.reduceAdd, Nat.reduceMul, Nat.reduceSub, Nat.reduceLeDiff, Nat.reduceBEq, Nat.reduceBNe, reduceIte, reduceDIte, reduceCtorEq]
        first | exact ⟨k + 1, by rw [wi (by omega) (by omega)]; simp, by rw [nth_gi, filter_t (p := fun x => closedB g x.toNat) (by omega) hb1], by omega, by omega⟩ | exact ⟨k + 1, by rw [wi (by omega) (by omega)]; simp, by rw [filter_f (p := fun x => closedB g x.toNat) (by omega) hb1], by omega, by omega⟩
    · intro hb0
      try simp only [decide_eq_true_eq, decide_eq_false_iff_not, beq_eq_false_iff_ne, bne_eq_false_iff_eq, Bool.not_eq_false', Bool.and_eq_false_imp] at hb0
      try simp only [nth_gi, nth_row] at hb0
      refine r_exit ?_
      refine k_seq_exit ?_
      refine k_round_exit ?_
      refine k_block_exit ?_
      refine k_seq ?_
      refine r_seq ?_
      refine q_region hG ?_ ?_ -- R8
      · first | trivial | omega | (simp; done) | (simp; omega)
      refine k_seq ?_
      refine r_ret ?_
      refine ⟨[], ?_⟩
      simp only [hT, tab40, mr0, mr1, mr2, isNilP, Nat.reduceLT, Nat.reduceEqDiff, Nat.reduceAdd, Nat.reduceMul, Nat.reduceSub, Nat.reduceLeDiff, Nat.reduceBEq, Nat.reduceBNe, reduceIte, reduceDIte, reduceCtorEq]
      exact filter_end (by omega)

end Go.Proofs.YtcopdikdkkdlfaaDoor
end

section
/- The functions of the package graph, one after the other: each meets its contract. -/
set_option linter.unusedSimpArgs false
set_option linter.unusedVariables false
set_option maxRecDepth 100000
namespace Go.Proofs.YtcopdikdkkdlfaaDoor
open Go Go.Cm Go.Cm.Gr Go.Proofs

def tab16 (B : Base) : Tab := { types := [(27, (.slice (.slice (.int .i64)))), (32, (.int .i64)), (37, (.slice (.int .u64)))], elems := [], cons := [(15, cParts), (40, cFilter)], hint := [], N := 17, base := B }
theorem good16 {B : Base} (hB : Tabs B) : MGood Tryd.prog (tab16 B) := ⟨⟨types_cons ty27 (types_cons ty32 (types_cons ty37 (types_nil))), elems_nil, by simp only [tab16, ioB]; omega⟩, cons_ok (cals_cons (cal_ok Tryd.func15 (by kernel_rfl) rfl (valid15 hB)) (cals_cons (cal_ok Tryd.func40 (by kernel_rfl) rfl (valid40 hB)) (cals_nil))), by kernel_rfl⟩
def cBottom : Con := fun l os => match l, os with
  | [.z (.slice (.slice (.int .i64))) g], [] => some (g.length ≤ 1000000 ∧ (∀ r ∈ g, r.length ≤ 1000000), [.z (.slice (.int .u64)) (if rdE g [] = 0 then botG g else []), .z (.int .i64) (rdE g [])], [])
  | _, _ => none

theorem valid16 {B : Base} (hB : Tabs B) : Valid B Tryd.prog 16 cBottom := by
  refine valid_of_J (T := tab16 B) (good16 hB).tab Tryd.func16 rfl rfl rfl ?_
  intro args os C rs os' hc hC
  unfold cBottom at hc
  split at hc
  case h_2 => cases hc
  rename_i g
  cases hc
  refine ⟨by simp only [List.length_cons, List.length_nil, tab16]; omega, rfl, ?_⟩
  intro X hP hT hr
  have hG : MGood X.P X.T := by rw [hP, hT]; exact good16 hB
  unfold tab16 at hT
  have hX := And.intro (@cFilter.eq_1) <| @cParts.eq_1
  simp only [Tryd.f16, argEnv, ioList, ioB]
  refine r_seq ?_
  refine q_region hG ?_ ?_ -- R0
  · first | trivial | omega | (simp; done) | (simp; omega)
  refine k_seq ?_
  refine r_seq ?_
  refine q_region hG ?_ ?_ -- R1
  · try simp only [and_true, true_and]
    exact hC
  refine k_seq ?_
  refine r_seq ?_
  refine r_seq ?_
  refine q_region hG ?_ ?_ -- R2
  · first | trivial | omega | (simp; done) | (simp; omega)
  refine k_seq ?_
  refine q_cond ?_ ?_
  · intro hb0
    try simp only [decide_eq_true_eq, decide_eq_false_iff_not, beq_iff_eq, bne_iff_ne, Bool.not_eq_true', Bool.and_eq_true] at hb0
    try simp only [nth_gi, nth_row] at hb0
    refine r_seq ?_
    refine q_region hG ?_ ?_ -- R3
    · first | trivial | omega | (simp; done) | (simp; omega)
    refine k_seq ?_
    refine r_ret ?_
    refine k_seq_ret ?_
    refine ⟨[], ?_⟩
    simp only [hT, tab16, mr0, mr1, mr2, isNilP, Nat.reduceLT, Nat.reduceEqDiff, Nat.reduceAdd, Nat.reduceMul, Nat.reduceSub, Nat.reduceLeDiff, Nat.reduceBEq, Nat.reduceBNe, reduceIte, reduceDIte, reduceCtorEq]
    rw [if_neg hb0]
  · intro hb0
    try simp only [decide_eq_true_eq, decide_eq_false_iff_not, beq_eq_false_iff_ne, bne_eq_false_iff_eq, Bool.not_eq_false', Bool.and_eq_false_imp] at hb0
    try simp only [nth_gi, nth_row] at hb0
    have hb0 : rdE g [] = 0 := by simpa using hb0
    refine r_skip ?_
    refine k_seq ?_
    refine r_seq ?_
    refine q_region hG ?_ ?_ -- R4
    · try simp only [and_true, true_and]
      have hv := (rd_ok hb0).2.1
      obtain ⟨l1, l2⟩ := parts_lims hv
      rw [if_pos hb0]
      exact ⟨hv, by omega, fun x hx => ⟨l2 x hx, by obtain ⟨r, hr, rfl⟩ := (mem_parts hv).1 hx; rw [Int.toNat_natCast]; exact scc_lt hv hr⟩⟩
    refine k_seq ?_
    refine r_ret ?_
    refine ⟨[], ?_⟩
    simp only [hT, tab16, mr0, mr1, mr2, isNilP, Nat.reduceLT, Nat.reduceEqDiff, Nat.reduceAdd, Nat.reduceMul, Nat.reduceSub, Nat.reduceLeDiff, Nat.reduceBEq, Nat.reduceBNe, reduceIte, reduceDIte, reduceCtorEq]
    rw [if_pos hb0, if_pos hb0, bot_closed (rd_ok hb0).2.1, hb0]
    exact ⟨rfl, rfl⟩

end Go.Proofs.YtcopdikdkkdlfaaDoor
end

section
/- The functions of the package graph, one after the other: each meets its contract. -/
set_option linter.unusedSimpArgs false
set_option linter.unusedVariables false
set_option maxRecDepth 100000
namespace Go.Proofs.YtcopdikdkkdlfaaDoor
open Go Go.Cm Go.Cm.Gr Go.Proofs

def tab11 (B : Base) : Tab := { types := [(3, (.int .i64)), (4, .bool), (5, (.int .u8)), (22, (.slice (.arr 2 (.int .u8)))), (24, (.st (.pair (.int .u8) (.pair (.slice (.arr 2 (.int .u8))) .bool)))), (27, (.slice (.slice (.int .i64)))), (36, (.slice (.int .i64))), (63, (.arr 2 (.int .u8)))], elems := [(27, 36), (36, 3)], cons := [], hint := [1000016], N := 82, base := B }
theorem good11 {B : Base} (hB : Tabs B) : MGood Tryd.prog (tab11 B) := ⟨⟨types_cons ty3 (types_cons ty4 (types_cons ty5 (types_cons ty22 (types_cons ty24 (types_cons ty27 (types_cons ty36 (types_cons ty63 (types_nil)))))))), elems_cons (by kernel_rfl) (elems_cons (by kernel_rfl) (elems_nil)), by simp only [tab11, ioB]; omega⟩, cons_nil rfl, by kernel_rfl⟩
def cDraft : Con := fun l os => match l, os with
  | [.z (.st (.pair (.int .u8) (.pair (.slice (.arr 2 (.int .u8))) .bool))) d], [] => some (Dok d, [.z (.slice (.slice (.int .i64))) (gD d)], [])
  | _, _ => none

theorem valid11 {B : Base} (hB : Tabs B) : Valid B Tryd.prog 11 cDraft := by
  refine valid_of_J (T := tab11 B) (good11 hB).tab Tryd.func11 rfl rfl rfl ?_
  intro args os C rs os' hc hC
  unfold cDraft at hc
  split at hc
  case h_2 => cases hc
  rename_i d
  cases hc
  refine ⟨by simp only [List.length_cons, List.length_nil, tab11]; omega, rfl, ?_⟩
  intro X hP hT hr
  have hG : MGood X.P X.T := by rw [hP, hT]; exact good11 hB
  unfold tab11 at hT
  have hX := Bool.not_true
  simp only [Tryd.f11, argEnv, ioList, ioB]
  refine r_seq ?_
  have n0 := dN_lim d
  refine q_region hG ?_ ?_ -- R0
  · first | trivial | omega | (simp; done) | (simp; omega)
  refine k_seq ?_
  refine r_seq ?_
  refine q_region hG ?_ ?_ -- R1
  · try simp only [and_true, true_and]
    decide
  refine k_seq ?_
  refine r_seq ?_
  refine q_region hG ?_ ?_ -- R2
  · try simp only [and_true, true_and]
    rw [n_is hC]
    exact ⟨Int.natCast_nonneg _, Int.le_refl _, roomy1 (by omega)⟩
  refine k_seq ?_
  refine r_seq ?_
  refine r_seq ?_
  refine q_region hG ?_ ?_ -- R3
  · first | trivial | omega | (simp; done) | (simp; omega)
  refine k_seq ?_
  refine j_block ?_
  refine j_loop (fun (z : Nat) => (⟨[(1, .l (.z (.ptr (.st (.pair (.int .u8) (.pair (.slice (.arr 2 (.int .u8))) .bool)))) d)), (2, .l (.val (.slice none 0 0))), (3, .l (.z (.int .i64) (dN d : Int))), (4, .l (.ownM 16)), (5, .l (.z (.int .i64) (z : Int)))], [(16, .mat (.int .i64) 36 3 (canR (drVW d z 0)) (canI (dN d)))]⟩ : AState)) (fun z => z ≤ dN d) (fun z => dN d - z) 0 ?_ ?_ ?_
  · simp only [ml0, ml1, Nat.reduceLT, Nat.reduceEqDiff, Nat.reduceAdd, Nat.reduceMul, Nat.reduceSub, Nat.reduceLeDiff, Nat.reduceBEq, Nat.reduceBNe, reduceIte, reduceDIte, reduceCtorEq]
    rw [n_is hC, Int.toNat_natCast, dr_first, canR_rep]
    exact ⟨rfl, rfl, rfl, rfl⟩
  · omega
  · rintro v g1
    try dsimp only at g1
    refine r_seq ?_
    refine r_seq ?_
    refine q_region hG ?_ ?_ -- R4
    · first | trivial | omega | (simp; done) | (simp; omega)
    refine k_seq ?_
    refine q_cond ?_ ?_
    · intro hb0
      try simp only [decide_eq_true_eq, decide_eq_false_iff_not, beq_iff_eq, bne_iff_ne, Bool.not_eq_true', Bool.and_eq_true] at hb0
      try simp only [nth_gi, nth_row] at hb0
      refine r_skip ?_
      refine k_seq ?_
      refine r_seq ?_
      refine j_block ?_
      refine r_seq ?_
      refine q_region hG ?_ ?_ -- R6
      · first | trivial | omega | (simp; done) | (simp; omega)
      refine k_seq ?_
      refine j_block ?_
      refine j_loop (fun (z : Nat) => (⟨[(1, .l (.z (.ptr (.st (.pair (.int .u8) (.pair (.slice (.arr 2 (.int .u8))) .bool)))) d)), (2, .l (.val (.slice none 0 0))), (3, .l (.z (.int .i64) (dN d : Int))), (4, .l (.ownM 16)), (5, .l (.z (.int .i64) (v : Int))), (6, .l (.z (.int .i64) (z : Int)))], [(16, .mat (.int .i64) 36 3 (canR (drVW d v z)) (canI (dN d)))]⟩ : AState)) (fun z => z ≤ dN d) (fun z => dN d - z) 0 ?_ ?_ ?_
      · simp only [ml0, ml1, Nat.reduceLT, Nat.reduceEqDiff, Nat.reduceAdd, Nat.reduceMul, Nat.reduceSub, Nat.reduceLeDiff, Nat.reduceBEq, Nat.reduceBNe, reduceIte, reduceDIte, reduceCtorEq]
        rfl
      · omega
      · rintro w g2
        try dsimp only at g2
        refine r_seq ?_
        refine r_seq ?_
        refine q_region hG ?_ ?_ -- R7
        · first | trivial | omega | (simp; done) | (simp; omega)
        refine k_seq ?_
        refine q_cond ?_ ?_
        · intro hb1
          try simp only [decide_eq_true_eq, decide_eq_false_iff_not, beq_iff_eq, bne_iff_ne, Bool.not_eq_true', Bool.and_eq_true] at hb1
          try simp only [nth_gi, nth_row] at hb1
          refine r_skip ?_
          refine k_seq ?_
          refine r_seq ?_
          refine j_block ?_
          refine r_seq ?_
          refine q_region hG ?_ ?_ -- R9
          · first | trivial | omega | (simp; done) | (simp; omega)
          refine k_seq ?_
          refine j_block ?_
          refine j_loop (fun (z : Nat) => (⟨[(1, .l (.z (.ptr (.st (.pair (.int .u8) (.pair (.slice (.arr 2 (.int .u8))) .bool)))) d)), (2, .l (.val (.slice none 0 0))), (3, .l (.z (.int .i64) (dN d : Int))), (4, .l (.ownM 16)), (5, .l (.z (.int .i64) (v : Int))), (6, .l (.z (.int .i64) (w : Int))), (7, .l (.z (.int .i64) (z : Int)))], [(16, .mat (.int .i64) 36 3 (canR (drVW d v w)) (canI (dN d)))]⟩ : AState)) (fun z => z ≤ d.2.1.length ∧ z ≤ 40 ∧ ∀ i, i < z → hitE d v w (d.2.1.getD i []) = false) (fun z => 40 - z) 0 ?_ ?_ ?_
          · simp only [ml0, ml1, Nat.reduceLT, Nat.reduceEqDiff, Nat.reduceAdd, Nat.reduceMul, Nat.reduceSub, Nat.reduceLeDiff, Nat.reduceBEq, Nat.reduceBNe, reduceIte, reduceDIte, reduceCtorEq]
            rfl
          · exact ⟨Nat.zero_le _, by decide, fun j h => absurd h (Nat.not_lt_zero j)⟩
          · rintro i ⟨g3, g4, g5⟩
            try dsimp only at g3 g4 g5
            refine r_seq ?_
            refine r_seq ?_
            refine q_region hG ?_ ?_ -- R10
            · try simp only [and_true, true_and]
              exact fun h => h
            refine k_seq ?_
            refine q_cond ?_ ?_
            · intro hb2
              try simp only [decide_eq_true_eq, decide_eq_false_iff_not, beq_iff_eq, bne_iff_ne, Bool.not_eq_true', Bool.and_eq_true] at hb2
              try simp only [nth_gi, nth_row] at hb2
              have hi : i < d.2.1.length := by have h : (i : Int) < (d.2.1.length : Int) := hb2.1; omega
              have hi4 : i < 40 := by have h : (i : Int) < (40 : Int) := hb2.2; omega
              have a0 := edge_0 hC hi
              have a1 := edge_1 hC hi
              refine r_skip ?_
              refine k_seq ?_
              refine r_seq ?_
              refine j_block ?_
              refine r_seq ?_
              refine q_draw hG ?_ ?_ -- R12
              · try simp only [and_true, true_and]
                have n1 : (dN d : Int) ≠ 0 := by omega
                exact ⟨⟨by omega, hb2.1⟩, ⟨by decide, by decide⟩, n1, ⟨by omega, hb2.1⟩, ⟨by decide, by decide⟩, n1⟩
              refine k_seq ?_
              refine r_seq ?_
              refine r_seq ?_
              refine q_region hG ?_ ?_ -- R13
              · try simp only [and_true, true_and]
                exact fun h => h
              refine k_seq ?_
              refine q_cond ?_ ?_
              · intro hb3
                try simp only [decide_eq_true_eq, decide_eq_false_iff_not, beq_iff_eq, bne_iff_ne, Bool.not_eq_true', Bool.and_eq_true] at hb3
                try simp only [nth_gi, nth_row] at hb3
                refine r_exit ?_
                refine k_seq_exit ?_
                refine k_block_exit ?_
                refine k_seq ?_
                refine q_region hG ?_ ?_ -- R11
                · first | trivial | omega | (simp; done) | (simp; omega)
                show ∃ z, _
                simp only [ml0, ml1, Nat.reduceLT, Nat.reduceEqDiff, Nat.reduceAdd, Nat.reduceMul, Nat.reduceSub, Nat.reduceLeDiff, Nat.reduceBEq, Nat.reduceBNe, reduceIte, reduceDIte, reduceCtorEq]
                first | (have h2 := hb3.2; rw [a0, a1] at h2; exact ⟨i + 1, by rw [wi (by omega) (by omega)]; simp, hi, hi4, hits_snoc g5 (hit_f1 hb3.1 (by omega)), by omega⟩) | exact ⟨i + 1, by rw [wi (by omega) (by omega)]; simp, hi, hi4, hits_snoc g5 (hit_f2 h4), by omega⟩
              · intro hb3
                try simp only [decide_eq_true_eq, decide_eq_false_iff_not, beq_eq_false_iff_ne, bne_eq_false_iff_eq, Bool.not_eq_false', Bool.and_eq_false_imp] at hb3
                try simp only [nth_gi, nth_row] at hb3
                have h1 : d.2.2 = true → ¬ (gi (d.2.1.getD i []) 0).toNat % dN d ≤ (gi (d.2.1.getD i []) 1).toNat % dN d := fun h h2 => hb3 h (by rw [a0, a1]; omega)
                refine r_skip ?_
                refine k_seq ?_
                refine r_seq ?_
                refine q_region hG ?_ ?_ -- R14
                · try simp only [and_true, true_and]
                  exact fun h => h
                refine k_seq ?_
                refine q_cond ?_ ?_
                · intro hb4
                  try simp only [decide_eq_true_eq, decide_eq_false_iff_not, beq_iff_eq, bne_iff_ne, Bool.not_eq_true', Bool.and_eq_true] at hb4
                  try simp only [nth_gi, nth_row] at hb4
                  rw [a0, a1] at hb4
                  refine r_seq ?_
                  refine q_region hG ?_ ?_ -- R15
                  · try simp only [and_true, true_and]
                    exact push_ok (dr_len d v w) (Int.natCast_nonneg v) hb0 (dr_row (by omega))
                  refine k_seq ?_
                  refine r_exit ?_
                  refine k_block_out rfl ?_
                  refine k_seq_exit ?_
                  refine k_round_exit ?_
                  refine k_block_exit ?_
                  refine k_block ?_
                  refine k_seq ?_
                  first | refine r_canon 16 (t := .int .i64) (push (drVW d v w) ((v : Int)).toNat w) (by rfl) (by decide) (push_can' (n := dN d) (ys := [(w : Int)]) (dr_len d v w) (show ((v : Int)).toNat < dN d by omega)).1 (push_can' (n := dN d) (ys := [(w : Int)]) (dr_len d v w) (show ((v : Int)).toNat < dN d by omega)).2.1 (push_can' (n := dN d) (ys := [(w : Int)]) (dr_len d v w) (show ((v : Int)).toNat < dN d by omega)).2.2 (by simp only [hT, tab11, mx0, mx1, mx2, mx3, mx4, mx5, mx6, effOp, endCall, callOp, appendOp, sliceLV, Ty.fieldTy, Ty.fieldOf, Nat.reduceLT, Nat.reduceEqDiff, Nat.reduceAdd, Nat.reduceMul, Nat.reduceSub, Nat.reduceLeDiff, Nat.reduceBEq, Nat.reduceBNe, reduceIte, reduceDIte, reduceCtorEq]; rfl) ?_ | skip
                  refine q_region hG ?_ ?_ -- R8
                  · first | trivial | omega | (simp; done) | (simp; omega)
                  show ∃ z, _
                  simp only [ml0, ml1, Nat.reduceLT, Nat.reduceEqDiff, Nat.reduceAdd, Nat.reduceMul, Nat.reduceSub, Nat.reduceLeDiff, Nat.reduceBEq, Nat.reduceBNe, reduceIte, reduceDIte, reduceCtorEq]
                  first | (have hh : hasD d v w = true := hit_some hi hi4 (hit_t h1 (by omega) (by omega)); exact ⟨w + 1, by rw [wi (by omega) (by omega)]; simp, by rw [Int.toNat_natCast, dr_t (by omega) hh], by rw [push_len, dr_len], by omega, by omega⟩) | (have hh : hasD d v w = false := hit_none (fun j h1 h2 => g5 j (Classical.byContradiction fun h3 => hb2 (by show (i : Int) < (d.2.1.length : Int); omega) (by show (i : Int) < (40 : Int); omega))); exact ⟨w + 1, by rw [wi (by omega) (by omega)]; simp, by rw [dr_f hh], by omega, by omega⟩)
                · intro hb4
                  try simp only [decide_eq_true_eq, decide_eq_false_iff_not, beq_eq_false_iff_ne, bne_eq_false_iff_eq, Bool.not_eq_false', Bool.and_eq_false_imp] at hb4
                  try simp only [nth_gi, nth_row] at hb4
                  have h4 : (gi (d.2.1.getD i []) 0).toNat % dN d = v → (gi (d.2.1.getD i []) 1).toNat % dN d ≠ w := fun h h2 => hb4 (by rw [a0, h]; simp) (by rw [a1, h2])
                  refine r_skip ?_
                  refine k_block ?_
                  refine k_seq ?_
                  refine q_region hG ?_ ?_ -- R11
                  · first | trivial | omega | (simp; done) | (simp; omega)
                  show ∃ z, _
                  simp only [ml0, ml1, Nat.reduceLT, Nat.reduceEqDiff, Nat.reduceAdd, Nat.reduceMul, Nat.reduceSub, Nat.reduceLeDiff, Nat.reduceBEq, Nat.reduceBNe, reduceIte, reduceDIte, reduceCtorEq]
                  first | (have h2 := hb3.2; rw [a0, a1] at h2; exact ⟨i + 1, by rw [wi (by omega) (by omega)]; simp, hi, hi4, hits_snoc g5 (hit_f1 hb3.1 (by omega)), by omega⟩) | exact ⟨i + 1, by rw [wi (by omega) (by omega)]; simp, hi, hi4, hits_snoc g5 (hit_f2 h4), by omega⟩
            · intro hb2
              try simp only [decide_eq_true_eq, decide_eq_false_iff_not, beq_eq_false_iff_ne, bne_eq_false_iff_eq, Bool.not_eq_false', Bool.and_eq_false_imp] at hb2
              try simp only [nth_gi, nth_row] at hb2
              refine r_exit ?_
              refine k_seq_exit ?_
              refine k_round_exit ?_
              refine k_block_exit ?_
              refine k_block ?_
              refine k_seq ?_
              first | refine r_canon 16 (t := .int .i64) (push (drVW d v w) ((v : Int)).toNat w) (by rfl) (by decide) (push_can' (n := dN d) (ys := [(w : Int)]) (dr_len d v w) (show ((v : Int)).toNat < dN d by omega)).1 (push_can' (n := dN d) (ys := [(w : Int)]) (dr_len d v w) (show ((v : Int)).toNat < dN d by omega)).2.1 (push_can' (n := dN d) (ys := [(w : Int)]) (dr_len d v w) (show ((v : Int)).toNat < dN d by omega)).2.2 (by simp only [hT, tab11, mx0, mx1, mx2, mx3, mx4, mx5, mx6, effOp, endCall, callOp, appendOp, sliceLV, Ty.fieldTy, Ty.fieldOf, Nat.reduceLT, Nat.reduceEqDiff, Nat.reduceAdd, Nat.reduceMul, Nat.reduceSub, Nat.reduceLeDiff, Nat.reduceBEq, Nat.reduceBNe, reduceIte, reduceDIte, reduceCtorEq]; rfl) ?_ | skip
              refine q_region hG ?_ ?_ -- R8
              · first | trivial | omega | (simp; done) | (simp; omega)
              show ∃ z, _
              simp only [ml0, ml1, Nat.reduceLT, Nat.reduceEqDiff, Nat.reduceAdd, Nat.reduceMul, Nat.reduceSub, Nat.reduceLeDiff, Nat.reduceBEq, Nat.reduceBNe, reduceIte, reduceDIte, reduceCtorEq]
              first | (have hh : hasD d v w = true := hit_some hi hi4 (hit_t h1 (by omega) (by omega)); exact ⟨w + 1, by rw [wi (by omega) (by omega)]; simp, by rw [Int.toNat_natCast, dr_t (by omega) hh], by rw [push_len, dr_len], by omega, by omega⟩) | (have hh : hasD d v w = false := hit_none (fun j h1 h2 => g5 j (Classical.byContradiction fun h3 => hb2 (by show (i : Int) < (d.2.1.length : Int); omega) (by show (i : Int) < (40 : Int); omega))); exact ⟨w + 1, by rw [wi (by omega) (by omega)]; simp, by rw [dr_f hh], by omega, by omega⟩)
        · intro hb1
          try simp only [decide_eq_true_eq, decide_eq_false_iff_not, beq_eq_false_iff_ne, bne_eq_false_iff_eq, Bool.not_eq_false', Bool.and_eq_false_imp] at hb1
          try simp only [nth_gi, nth_row] at hb1
          refine r_exit ?_
          refine k_seq_exit ?_
          refine k_round_exit ?_
          refine k_block_exit ?_
          refine k_block ?_
          refine k_seq ?_
          refine q_region hG ?_ ?_ -- R5
          · first | trivial | omega | (simp; done) | (simp; omega)
          show ∃ z, _
          simp only [ml0, ml1, Nat.reduceLT, Nat.reduceEqDiff, Nat.reduceAdd, Nat.reduceMul, Nat.reduceSub, Nat.reduceLeDiff, Nat.reduceBEq, Nat.reduceBNe, reduceIte, reduceDIte, reduceCtorEq]
          exact ⟨v + 1, by rw [wi (by omega) (by omega)]; simp, by rw [dr_next (by omega) g2], by omega, by omega⟩
    · intro hb0
      try simp only [decide_eq_true_eq, decide_eq_false_iff_not, beq_eq_false_iff_ne, bne_eq_false_iff_eq, Bool.not_eq_false', Bool.and_eq_false_imp] at hb0
      try simp only [nth_gi, nth_row] at hb0
      refine r_exit ?_
      refine k_seq_exit ?_
      refine k_round_exit ?_
      refine k_block_exit ?_
      refine k_seq ?_
      refine r_seq ?_
      refine r_thawM 16 (t := .int .i64) (drVW d v 0) (by rfl) (dr_len d v 0).symm (by simp only [hT, tab11, mx0, mx1, mx2, mx3, mx4, mx5, mx6, effOp, endCall, callOp, appendOp, sliceLV, Ty.fieldTy, Ty.fieldOf, Nat.reduceLT, Nat.reduceEqDiff, Nat.reduceAdd, Nat.reduceMul, Nat.reduceSub, Nat.reduceLeDiff, Nat.reduceBEq, Nat.reduceBNe, reduceIte, reduceDIte, reduceCtorEq]; rfl) ?_
      refine q_region hG ?_ ?_ -- R16
      · first | trivial | omega | (simp; done) | (simp; omega)
      refine k_seq ?_
      refine r_ret ?_
      refine ⟨[], ?_⟩
      simp only [hT, tab11, mr0, mr1, mr2, isNilP, Nat.reduceLT, Nat.reduceEqDiff, Nat.reduceAdd, Nat.reduceMul, Nat.reduceSub, Nat.reduceLeDiff, Nat.reduceBEq, Nat.reduceBNe, reduceIte, reduceDIte, reduceCtorEq]
      rw [dr_end (by omega)]

end Go.Proofs.YtcopdikdkkdlfaaDoor
end

section
/- The functions of the package graph, one after the other: each meets its contract. -/
set_option linter.unusedSimpArgs false
set_option linter.unusedVariables false
set_option maxRecDepth 100000
namespace Go.Proofs.YtcopdikdkkdlfaaDoor
open Go Go.Cm Go.Cm.Gr Go.Proofs

def tab43 (B : Base) : Tab := { types := [(3, (.int .i64)), (27, (.slice (.slice (.int .i64)))), (30, (.int .u64)), (36, (.slice (.int .i64))), (71, (.st (.slice (.slice (.int .i64))))), (73, (.st (.st (.slice (.slice (.int .i64))))))], elems := [(36, 3)], cons := [(53, cRep)], hint := [2000036], N := 69, base := B }
theorem good43 {B : Base} (hB : Tabs B) : MGood Tryd.prog (tab43 B) := ⟨⟨types_cons ty3 (types_cons ty27 (types_cons ty30 (types_cons ty36 (types_cons ty71 (types_cons ty73 (types_nil)))))), elems_cons (by kernel_rfl) (elems_nil), by simp only [tab43, ioB]; omega⟩, cons_ok (cals_cons (cal_ok Tryd.func53 (by kernel_rfl) rfl (valid53 hB)) (cals_nil)), by kernel_rfl⟩
def cSteps : Con := fun l os => match l, os with
  | [.z (.opt (.st (.st (.slice (.slice (.int .i64)))))) (some g), .z (.int .u64) s], [] => some (Val g ∧ U64 s ∧ s.toNat < 2 ^ g.length, [.z (.slice (.int .i64)) (far g s.toNat)], [])
  | _, _ => none

theorem valid43 {B : Base} (hB : Tabs B) : Valid B Tryd.prog 43 cSteps := by
  refine valid_of_J (T := tab43 B) (good43 hB).tab Tryd.func43 rfl rfl rfl ?_
  intro args os C rs os' hc hC
  unfold cSteps at hc
  split at hc
  case h_2 => cases hc
  rename_i g s
  cases hc
  refine ⟨by simp only [List.length_cons, List.length_nil, tab43]; omega, rfl, ?_⟩
  intro X hP hT hr
  have hG : MGood X.P X.T := by rw [hP, hT]; exact good43 hB
  unfold tab43 at hT
  have hX := @cRep.eq_1
  simp only [Tryd.f43, argEnv, ioList, ioB]
  refine r_seq ?_
  obtain ⟨hv, hu, hs⟩ := hC
  have h64 := hu.lt
  have n1 := hv.one
  have n2 := hv.most
  refine q_region hG ?_ ?_ -- R0
  · first | trivial | omega | (simp; done) | (simp; omega)
  refine k_seq ?_
  refine j_scope ?_
  refine r_seq ?_
  refine q_region hG ?_ ?_ -- R1
  · try simp only [and_true, true_and]
    exact len_z hv
  refine k_seq ?_
  refine r_seq ?_
  refine q_region hG ?_ ?_ -- R2
  · first | trivial | omega | (simp; done) | (simp; omega)
  refine k_seq ?_
  refine r_seq ?_
  refine r_seq ?_
  refine r_newfn hG (pre := [_]) (o := _) rfl (by simp only [hT, tab43, cRep, mx0, mx1, mx2, mx3, mx4, mx5, mx6, effOp, endCall, callOp, appendOp, sliceLV, Ty.fieldTy, Ty.fieldOf, Nat.reduceLT, Nat.reduceEqDiff, Nat.reduceAdd, Nat.reduceMul, Nat.reduceSub, Nat.reduceLeDiff, Nat.reduceBEq, Nat.reduceBNe, reduceIte, reduceDIte, reduceCtorEq]; rfl) trivial rfl rfl rfl rfl rfl (by rw [hT]; rfl) (by decide) (by rw [hP]; exact Tryd.func42) (by rfl) (by rfl) (by rw [hP]; exact new42) (by simp only [hT, tab43, cRep, mx0, mx1, mx2, mx3, mx4, mx5, mx6, effOp, endCall, callOp, appendOp, sliceLV, Ty.fieldTy, Ty.fieldOf, Nat.reduceLT, Nat.reduceEqDiff, Nat.reduceAdd, Nat.reduceMul, Nat.reduceSub, Nat.reduceLeDiff, Nat.reduceBEq, Nat.reduceBNe, reduceIte, reduceDIte, reduceCtorEq]; rfl) (by simp only [hT, tab43, cRep, mx0, mx1, mx2, mx3, mx4, mx5, mx6, effOp, endCall, callOp, appendOp, sliceLV, Ty.fieldTy, Ty.fieldOf, Nat.reduceLT, Nat.reduceEqDiff, Nat.reduceAdd, Nat.reduceMul, Nat.reduceSub, Nat.reduceLeDiff, Nat.reduceBEq, Nat.reduceBNe, reduceIte, reduceDIte, reduceCtorEq]; rfl) ?_ -- R3
  refine k_seq ?_
  refine j_block ?_
  refine j_rangeB hr (gf := 52) (id := 1160) (T := 30) (cs := [.z (.int .u64) s]) (items := nodeItems s.toNat) (by simp only [hT, tab43, mx0, mx1, mx2, mx3, mx4, mx5, mx6, effOp, endCall, callOp, appendOp, sliceLV, Ty.fieldTy, Ty.fieldOf, Nat.reduceLT, Nat.reduceEqDiff, Nat.reduceAdd, Nat.reduceMul, Nat.reduceSub, Nat.reduceLeDiff, Nat.reduceBEq, Nat.reduceBNe, reduceIte, reduceDIte, reduceCtorEq]; try rfl) (by simp only [hT, tab43, mx0, mx1, mx2, mx3, mx4, mx5, mx6, effOp, endCall, callOp, appendOp, sliceLV, Ty.fieldTy, Ty.fieldOf, Nat.reduceLT, Nat.reduceEqDiff, Nat.reduceAdd, Nat.reduceMul, Nat.reduceSub, Nat.reduceLeDiff, Nat.reduceBEq, Nat.reduceBNe, reduceIte, reduceDIte, reduceCtorEq]; try rfl) (by rw [hP, hT]; exact seq52 hB hu) (by rfl) [0, 1, 4, 5, 6] (by rfl) (by simp only [hT, tab43]; try rfl) (fun (k : Nat) (z : Unit) => (⟨[(0, .l (.z (.opt (.st (.st (.slice (.slice (.int .i64)))))) (some g))), (1, .l (.z (.int .u64) s)), (4, .l (.val (.slice none 0 0))), (5, .l (.ownP 5 0)), (6, .l (.ownP 6 0))], [(5, .box 36 [.ownS 1144]), (1144, .arr (.int .i64) 3 (outs g s.toNat k)), (6, .box 36 [.ownS 1224]), (1224, .que (.int .i64) 3 (((nodesL s.toNat).take k).map Int.ofNat))]⟩ : AState)) (fun (k : Nat) (z : Unit) => True) () ?_ (by rfl) ?_ ?_ ?_ ?_
  · simp only [ml0, ml1, Nat.reduceLT, Nat.reduceEqDiff, Nat.reduceAdd, Nat.reduceMul, Nat.reduceSub, Nat.reduceLeDiff, Nat.reduceBEq, Nat.reduceBNe, reduceIte, reduceDIte, reduceCtorEq]
    exact ⟨by rw [Int.toNat_natCast, outs_zero], by decide⟩
  · trivial
  · intro k z; rfl
  · intro k hk
    rintro ⟨⟩ -
    have hk2 : k < (nodesL s.toNat).length := by simpa [nodeItems] using hk
    refine ⟨_, by simp only [hT, tab43, nodeItems, nodeItem, mx0, mx1, mx2, mx3, mx4, mx5, mx6, effOp, endCall, callOp, appendOp, sliceLV, Ty.fieldTy, Ty.fieldOf, Nat.reduceLT, Nat.reduceEqDiff, Nat.reduceAdd, Nat.reduceMul, Nat.reduceSub, Nat.reduceLeDiff, Nat.reduceBEq, Nat.reduceBNe, reduceIte, reduceDIte, reduceCtorEq, List.getElem_map, List.getElem_range]; rfl, ?_⟩
    intro X' hP' hT'
    have hG' : MGood X'.P X'.T := by rw [hP', hT']; exact hG.keep _
    rw [hT] at hT'
    refine j_block ?_
    refine r_seq ?_
    refine q_region' hG' ?_ ?_ -- R5
    · try simp only [and_true, true_and]
      rw [(outs_spec hs k).1]
      have := ctz_lt h64 hs hk2
      omega
    refine k_seq ?_
    refine q_region' hG' ?_ ?_ -- R6
    · try simp only [and_true, true_and]
      refine roomy1 ?_
      have := nodesL_len s.toNat
      simp only [List.length_map, List.length_take]
      omega
    refine k_block ?_
    show ∃ z, _
    simp only [ml0, ml1, Nat.reduceLT, Nat.reduceEqDiff, Nat.reduceAdd, Nat.reduceMul, Nat.reduceSub, Nat.reduceLeDiff, Nat.reduceBEq, Nat.reduceBNe, reduceIte, reduceDIte, reduceCtorEq]
    exact ⟨by rw [Int.toNat_natCast]; exact outs_succ h64 hk2, nodes_succ h64 hk2⟩
  · rintro ⟨⟩ -
    refine k_block ?_
    refine k_seq ?_
    refine r_seq ?_
    refine r_label ?_
    refine k_seq ?_
    refine r_seq ?_
    refine j_block ?_
    refine j_loop (fun (z : List Int × List Int) => (⟨[(0, .l (.z (.opt (.st (.st (.slice (.slice (.int .i64)))))) (some g))), (1, .l (.z (.int .u64) s)), (4, .l (.val (.slice none 0 0))), (5, .l (.ownP 5 0)), (6, .l (.ownP 6 0))], [(5, .box 36 [.ownS 1144]), (1144, .arr (.int .i64) 3 z.2), (6, .box 36 [.ownS 1224]), (1224, .que (.int .i64) 3 z.1)]⟩ : AState)) (fun z => Bf g s.toNat z.1 z.2 ∧ z.1.length + Gr.blank z.2 ≤ 100) (fun z => z.1.length + Gr.blank z.2) (((nodesL s.toNat).map Int.ofNat), outs g s.toNat 64) ?_ ?_ ?_
    · simp only [ml0, ml1, Nat.reduceLT, Nat.reduceEqDiff, Nat.reduceAdd, Nat.reduceMul, Nat.reduceSub, Nat.reduceLeDiff, Nat.reduceBEq, Nat.reduceBNe, reduceIte, reduceDIte, reduceCtorEq]
      have hl : (nodeItems s.toNat).length = (nodesL s.toNat).length := by simp [nodeItems]
      exact ⟨outs_end (by rw [hl]; exact Nat.le_refl _), by rw [hl, List.take_of_length_le (Nat.le_refl _)]⟩
    · exact outs_start hv h64 hs
    · rintro ⟨q, o⟩ ⟨g1, g2⟩
      try dsimp only at g1 g2
      refine j_block ?_
      refine r_seq ?_
      refine r_seq ?_
      refine q_region hG ?_ ?_ -- R7
      · first | trivial | omega | (simp; done) | (simp; omega)
      refine k_seq ?_
      refine q_cond ?_ ?_
      · intro hb0
        try simp only [decide_eq_true_eq, decide_eq_false_iff_not, beq_iff_eq, bne_iff_ne, Bool.not_eq_true', Bool.and_eq_true] at hb0
        try simp only [nth_gi, nth_row] at hb0
        refine r_exit ?_
        refine k_seq_exit ?_
        refine k_block_out rfl ?_
        refine k_round_exit ?_
        refine k_block_exit ?_
        refine k_seq ?_
        refine r_seq ?_
        refine q_region hG ?_ ?_ -- R17
        · first | trivial | omega | (simp; done) | (simp; omega)
        refine k_seq ?_
        refine r_ret ?_
        refine k_scope_ret ?_
        refine ⟨[], ?_⟩
        simp only [hT, tab43, mr0, mr1, mr2, isNilP, Nat.reduceLT, Nat.reduceEqDiff, Nat.reduceAdd, Nat.reduceMul, Nat.reduceSub, Nat.reduceLeDiff, Nat.reduceBEq, Nat.reduceBNe, reduceIte, reduceDIte, reduceCtorEq]
        have : q = [] := List.eq_nil_of_length_eq_zero (by omega)
        subst this
        exact g1.end_ hv hs
      · intro hb0
        try simp only [decide_eq_true_eq, decide_eq_false_iff_not, beq_eq_false_iff_ne, bne_eq_false_iff_eq, Bool.not_eq_false', Bool.and_eq_false_imp] at hb0
        try simp only [nth_gi, nth_row] at hb0
        obtain ⟨v, q, rfl⟩ : ∃ v q1, q = v :: q1 := by cases q with
    | nil => simp at hb0
    | cons v q => exact ⟨v, q, rfl⟩
        obtain ⟨v1, v2, v3⟩ := g1.inq v (List.mem_cons_self ..)
        refine r_skip ?_
        refine k_seq ?_
        refine r_seq ?_
        refine q_region hG ?_ ?_ -- R8
        · try simp only [and_true, true_and]
          exact ⟨⟨by omega, by omega⟩, by simp⟩
        refine k_seq ?_
        refine r_seq ?_
        refine q_region hG ?_ ?_ -- R9
        · try simp only [and_true, true_and]
          omega
        refine k_seq ?_
        refine r_seq ?_
        refine q_region hG ?_ ?_ -- R10
        · try simp only [and_true, true_and]
          exact ⟨v1, v2⟩
        refine k_seq ?_
        refine j_block ?_
        refine j_loop (fun (z : Nat) => (⟨[(0, .l (.z (.opt (.st (.st (.slice (.slice (.int .i64)))))) (some g))), (1, .l (.z (.int .u64) s)), (4, .l (.val (.slice none 0 0))), (5, .l (.ownP 5 0)), (6, .l (.ownP 6 0)), (8, .l (.z (.int .i64) v)), (44, .l (.z (.slice (.int .i64)) (row g v.toNat))), (45, .l (.z (.int .i64) ((row g v.toNat).length : Int))), (46, .l (.z (.int .i64) (z : Int)))], [(5, .box 36 [.ownS 1144]), (1144, .arr (.int .i64) 3 (((row g v.toNat).take z).foldl (relax (gi o v.toNat)) (q, o)).2), (6, .box 36 [.ownS 1224]), (1224, .que (.int .i64) 3 (((row g v.toNat).take z).foldl (relax (gi o v.toNat)) (q, o)).1)]⟩ : AState)) (fun z => z ≤ (row g v.toNat).length) (fun z => (row g v.toNat).length - z) 0 ?_ ?_ ?_
        · simp only [ml0, ml1, Nat.reduceLT, Nat.reduceEqDiff, Nat.reduceAdd, Nat.reduceMul, Nat.reduceSub, Nat.reduceLeDiff, Nat.reduceBEq, Nat.reduceBNe, reduceIte, reduceDIte, reduceCtorEq]
          exact ⟨rfl, rfl, rfl, rfl, rfl, rfl⟩
        · omega
        · rintro j g3
          try dsimp only at g3
          obtain ⟨e1, e2, e3, e4, e5, e6⟩ := inner hv hs g1 (j := j) rfl
          have e7 := row_len hv v.toNat
          refine r_seq ?_
          refine q_region hG ?_ ?_ -- R11
          · first | trivial | omega | (simp; done) | (simp; omega)
          refine k_seq ?_
          refine r_seq ?_
          refine q_cond ?_ ?_
          · intro hb1
            try simp only [decide_eq_true_eq, decide_eq_false_iff_not, beq_iff_eq, bne_iff_ne, Bool.not_eq_true', Bool.and_eq_true] at hb1
            try simp only [nth_gi, nth_row] at hb1
            have hj : j < (row g v.toNat).length := by omega
            obtain ⟨w1, w2⟩ := row_at' hv hj
            refine r_skip ?_
            refine k_seq ?_
            refine r_seq ?_
            refine j_block ?_
            refine r_seq ?_
            refine q_region hG ?_ ?_ -- R12
            · try simp only [and_true, true_and]
              omega
            refine k_seq ?_
            refine r_seq ?_
            refine q_region hG ?_ ?_ -- R13
            · try simp only [and_true, true_and]
              rw [e2]
              exact ⟨⟨w1, w2⟩, by have := w2; simp only [nth_gi]; omega⟩
            refine k_seq ?_
            refine q_cond ?_ ?_
            · intro hb2
              try simp only [decide_eq_true_eq, decide_eq_false_iff_not, beq_iff_eq, bne_iff_ne, Bool.not_eq_true', Bool.and_eq_true] at hb2
              try simp only [nth_gi, nth_row] at hb2
              refine r_seq ?_
              refine q_draw hG ?_ ?_ -- R14
              · try simp only [and_true, true_and]
                rw [e2]
                exact ⟨⟨v1, v2⟩, by omega, ⟨w1, w2⟩, by have := w2; simp only [nth_gi]; omega⟩
              refine k_seq ?_
              refine q_region hG ?_ ?_ -- R15
              · try simp only [and_true, true_and]
                refine roomy1 ?_
                have : q.length + 1 + Gr.blank o ≤ 100 := g2
                omega
              refine k_block ?_
              refine k_seq ?_
              refine q_region hG ?_ ?_ -- R16
              · first | trivial | omega | (simp; done) | (simp; omega)
              show ∃ z, _
              simp only [ml0, ml1, Nat.reduceLT, Nat.reduceEqDiff, Nat.reduceAdd, Nat.reduceMul, Nat.reduceSub, Nat.reduceLeDiff, Nat.reduceBEq, Nat.reduceBNe, reduceIte, reduceDIte, reduceCtorEq]
              first | exact ⟨j + 1, by rw [wi (by omega) (by omega)]; simp, (round_t rfl hj e4 e5 e6 hb2).1, (round_t rfl hj e4 e5 e6 hb2).2, by omega, by omega⟩ | exact ⟨j + 1, by rw [wi (by omega) (by omega)]; simp, by rw [relax_f hj hb2], by rw [relax_f hj hb2], by omega, by omega⟩
            · intro hb2
              try simp only [decide_eq_true_eq, decide_eq_false_iff_not, beq_eq_false_iff_ne, bne_eq_false_iff_eq, Bool.not_eq_false', Bool.and_eq_false_imp] at hb2
              try simp only [nth_gi, nth_row] at hb2
              refine r_skip ?_
              refine k_block ?_
              refine k_seq ?_
              refine q_region hG ?_ ?_ -- R16
              · first | trivial | omega | (simp; done) | (simp; omega)
              show ∃ z, _
              simp only [ml0, ml1, Nat.reduceLT, Nat.reduceEqDiff, Nat.reduceAdd, Nat.reduceMul, Nat.reduceSub, Nat.reduceLeDiff, Nat.reduceBEq, Nat.reduceBNe, reduceIte, reduceDIte, reduceCtorEq]
              first | exact ⟨j + 1, by rw [wi (by omega) (by omega)]; simp, (round_t rfl hj e4 e5 e6 hb2).1, (round_t rfl hj e4 e5 e6 hb2).2, by omega, by omega⟩ | exact ⟨j + 1, by rw [wi (by omega) (by omega)]; simp, by rw [relax_f hj hb2], by rw [relax_f hj hb2], by omega, by omega⟩
          · intro hb1
            try simp only [decide_eq_true_eq, decide_eq_false_iff_not, beq_eq_false_iff_ne, bne_eq_false_iff_eq, Bool.not_eq_false', Bool.and_eq_false_imp] at hb1
            try simp only [nth_gi, nth_row] at hb1
            refine r_exit ?_
            refine k_seq_exit ?_
            refine k_round_exit ?_
            refine k_block_exit ?_
            refine k_block ?_
            show ∃ z, _
            simp only [ml0, ml1, Nat.reduceLT, Nat.reduceEqDiff, Nat.reduceAdd, Nat.reduceMul, Nat.reduceSub, Nat.reduceLeDiff, Nat.reduceBEq, Nat.reduceBNe, reduceIte, reduceDIte, reduceCtorEq]
            obtain ⟨f1, f2⟩ := round_end hv hs g1 (j := j) (by omega) rfl
            have g2 : q.length + 1 + Gr.blank o ≤ 100 := g2
            exact ⟨f1, by omega, by omega⟩

end Go.Proofs.YtcopdikdkkdlfaaDoor
end

section
/- The functions of the package graph, one after the other: each meets its contract. -/
set_option linter.unusedSimpArgs false
set_option linter.unusedVariables false
set_option maxRecDepth 100000
namespace Go.Proofs.YtcopdikdkkdlfaaDoor
open Go Go.Cm Go.Cm.Gr Go.Proofs

def tab36 (B : Base) : Tab := { types := [(3, (.int .i64)), (30, (.int .u64)), (36, (.slice (.int .i64))), (64, (.opt (.st (.st (.slice (.slice (.int .i64)))))))], elems := [], cons := [(43, cSteps)], hint := [], N := 25, base := B }
theorem good36 {B : Base} (hB : Tabs B) : MGood Tryd.prog (tab36 B) := ⟨⟨types_cons ty3 (types_cons ty30 (types_cons ty36 (types_cons ty64 (types_nil)))), elems_nil, by simp only [tab36, ioB]; omega⟩, cons_ok (cals_cons (cal_ok Tryd.func43 (by kernel_rfl) rfl (valid43 hB)) (cals_nil)), by kernel_rfl⟩
def cReached : Con := fun l os => match l, os with
  | [.z (.opt (.st (.st (.slice (.slice (.int .i64)))))) (some g), .z (.int .u64) s], [] => some (Val g ∧ U64 s ∧ s.toNat < 2 ^ g.length, [.z (.int .u64) (reach g s.toNat : Int)], [])
  | _, _ => none

theorem valid36 {B : Base} (hB : Tabs B) : Valid B Tryd.prog 36 cReached := by
  refine valid_of_J (T := tab36 B) (good36 hB).tab Tryd.func36 rfl rfl rfl ?_
  intro args os C rs os' hc hC
  unfold cReached at hc
  split at hc
  case h_2 => cases hc
  rename_i g s
  cases hc
  refine ⟨by simp only [List.length_cons, List.length_nil, tab36]; omega, rfl, ?_⟩
  intro X hP hT hr
  have hG : MGood X.P X.T := by rw [hP, hT]; exact good36 hB
  unfold tab36 at hT
  have hX := @cSteps.eq_1
  simp only [Tryd.f36, argEnv, ioList, ioB]
  refine r_seq ?_
  obtain ⟨hv, hu, hs⟩ := hC
  have h64 := hu.lt
  have n1 := hv.one
  have n2 := hv.most
  refine q_region hG ?_ ?_ -- R0
  · first | trivial | omega | (simp; done) | (simp; omega)
  refine k_seq ?_
  refine r_seq ?_
  refine q_region hG ?_ ?_ -- R1
  · first | trivial | omega | (simp; done) | (simp; omega)
  refine k_seq ?_
  refine r_seq ?_
  refine r_seq ?_
  refine q_region hG ?_ ?_ -- R2
  · try simp only [and_true, true_and]
    exact ⟨hv, hu, hs⟩
  refine k_seq ?_
  refine j_block ?_
  refine j_loop (fun (z : Nat) => (⟨[(0, .l (.z (.opt (.st (.st (.slice (.slice (.int .i64)))))) (some g))), (1, .l (.z (.int .u64) s)), (4, .l (.z (.int .u64) 0)), (10, .l (.z (.slice (.int .i64)) (far g s.toNat))), (11, .l (.z (.int .i64) ((far g s.toNat).length : Int))), (12, .l (.z (.int .i64) (z : Int))), (5, .l (.z (.int .u64) (mask z (sawB g s.toNat) : Int)))], []⟩ : AState)) (fun z => z ≤ g.length) (fun z => g.length - z) 0 ?_ ?_ ?_
  · simp only [ml0, ml1, Nat.reduceLT, Nat.reduceEqDiff, Nat.reduceAdd, Nat.reduceMul, Nat.reduceSub, Nat.reduceLeDiff, Nat.reduceBEq, Nat.reduceBNe, reduceIte, reduceDIte, reduceCtorEq]
    exact ⟨rfl, rfl⟩
  · omega
  · rintro k g1
    try dsimp only at g1
    refine r_seq ?_
    refine q_region hG ?_ ?_ -- R3
    · first | trivial | omega | (simp; done) | (simp; omega)
    refine k_seq ?_
    refine r_seq ?_
    refine q_cond ?_ ?_
    · intro hb0
      try simp only [decide_eq_true_eq, decide_eq_false_iff_not, beq_iff_eq, bne_iff_ne, Bool.not_eq_true', Bool.and_eq_true] at hb0
      try simp only [nth_gi, nth_row] at hb0
      rw [far_len] at hb0
      refine r_skip ?_
      refine k_seq ?_
      refine r_seq ?_
      refine j_block ?_
      refine r_seq ?_
      refine q_region hG ?_ ?_ -- R4
      · try simp only [and_true, true_and]
        rw [far_len]
        omega
      refine k_seq ?_
      refine r_seq ?_
      refine q_region hG ?_ ?_ -- R5
      · first | trivial | omega | (simp; done) | (simp; omega)
      refine k_seq ?_
      refine q_cond ?_ ?_
      · intro hb1
        try simp only [decide_eq_true_eq, decide_eq_false_iff_not, beq_iff_eq, bne_iff_ne, Bool.not_eq_true', Bool.and_eq_true] at hb1
        try simp only [nth_gi, nth_row] at hb1
        refine q_region hG ?_ ?_ -- R6
        · first | trivial | omega | (simp; done) | (simp; omega)
        refine k_block ?_
        refine k_seq ?_
        refine q_region hG ?_ ?_ -- R7
        · first | trivial | omega | (simp; done) | (simp; omega)
        show ∃ z, _
        simp only [ml0, ml1, Nat.reduceLT, Nat.reduceEqDiff, Nat.reduceAdd, Nat.reduceMul, Nat.reduceSub, Nat.reduceLeDiff, Nat.reduceBEq, Nat.reduceBNe, reduceIte, reduceDIte, reduceCtorEq]
        first | exact ⟨k + 1, by rw [wi (by omega) (by omega)]; simp, by rw [Int.toNat_natCast, mask_put (by omega), mask_succ, if_pos (by rw [far_at (by omega)] at hb1; simpa [sawB] using hb1)], by omega, by omega⟩ | exact ⟨k + 1, by rw [wi (by omega) (by omega)]; simp, by rw [mask_succ, if_neg (by rw [far_at (by omega)] at hb1; simpa [sawB] using hb1)], by omega, by omega⟩
      · intro hb1
        try simp only [decide_eq_true_eq, decide_eq_false_iff_not, beq_eq_false_iff_ne, bne_eq_false_iff_eq, Bool.not_eq_false', Bool.and_eq_false_imp] at hb1
        try simp only [nth_gi, nth_row] at hb1
        refine r_skip ?_
        refine k_block ?_
        refine k_seq ?_
        refine q_region hG ?_ ?_ -- R7
        · first | trivial | omega | (simp; done) | (simp; omega)
        show ∃ z, _
        simp only [ml0, ml1, Nat.reduceLT, Nat.reduceEqDiff, Nat.reduceAdd, Nat.reduceMul, Nat.reduceSub, Nat.reduceLeDiff, Nat.reduceBEq, Nat.reduceBNe, reduceIte, reduceDIte, reduceCtorEq]
        first | exact ⟨k + 1, by rw [wi (by omega) (by omega)]; simp, by rw [Int.toNat_natCast, mask_put (by omega), mask_succ, if_pos (by rw [far_at (by omega)] at hb1; simpa [sawB] using hb1)], by omega, by omega⟩ | exact ⟨k + 1, by rw [wi (by omega) (by omega)]; simp, by rw [mask_succ, if_neg (by rw [far_at (by omega)] at hb1; simpa [sawB] using hb1)], by omega, by omega⟩
    · intro hb0
      try simp only [decide_eq_true_eq, decide_eq_false_iff_not, beq_eq_false_iff_ne, bne_eq_false_iff_eq, Bool.not_eq_false', Bool.and_eq_false_imp] at hb0
      try simp only [nth_gi, nth_row] at hb0
      refine r_exit ?_
      refine k_seq_exit ?_
      refine k_round_exit ?_
      refine k_block_exit ?_
      refine k_seq ?_
      refine r_seq ?_
      refine q_region hG ?_ ?_ -- R8
      · first | trivial | omega | (simp; done) | (simp; omega)
      refine k_seq ?_
      refine r_ret ?_
      refine ⟨[], ?_⟩
      simp only [hT, tab36, mr0, mr1, mr2, isNilP, Nat.reduceLT, Nat.reduceEqDiff, Nat.reduceAdd, Nat.reduceMul, Nat.reduceSub, Nat.reduceLeDiff, Nat.reduceBEq, Nat.reduceBNe, reduceIte, reduceDIte, reduceCtorEq]
      rw [far_len] at hb0
      have hk : k = g.length := by omega
      rw [hk, mask_reach hv hs]

end Go.Proofs.YtcopdikdkkdlfaaDoor
end

section
/- The functions of the package graph, one after the other: each meets its contract. -/
set_option linter.unusedSimpArgs false
set_option linter.unusedVariables false
set_option maxRecDepth 100000
namespace Go.Proofs.YtcopdikdkkdlfaaDoor
open Go Go.Cm Go.Cm.Gr Go.Proofs

def tab35 (B : Base) : Tab := { types := [(3, (.int .i64)), (27, (.slice (.slice (.int .i64)))), (36, (.slice (.int .i64))), (71, (.st (.slice (.slice (.int .i64))))), (73, (.st (.st (.slice (.slice (.int .i64))))))], elems := [(27, 36), (36, 3)], cons := [], hint := [1000014, 17], N := 56, base := B }
theorem good35 {B : Base} (hB : Tabs B) : MGood Tryd.prog (tab35 B) := ⟨⟨types_cons ty3 (types_cons ty27 (types_cons ty36 (types_cons ty71 (types_cons ty73 (types_nil))))), elems_cons (by kernel_rfl) (elems_cons (by kernel_rfl) (elems_nil)), by simp only [tab35, ioB]; omega⟩, cons_nil rfl, by kernel_rfl⟩
def cTurned : Con := fun l os => match l, os with
  | [.z (.opt (.st (.st (.slice (.slice (.int .i64)))))) (some g)], [] => some (Val g, [.z (.opt (.st (.st (.slice (.slice (.int .i64)))))) (some (trn g))], [])
  | _, _ => none

theorem valid35 {B : Base} (hB : Tabs B) : Valid B Tryd.prog 35 cTurned := by
  refine valid_of_J (T := tab35 B) (good35 hB).tab Tryd.func35 rfl rfl rfl ?_
  intro args os C rs os' hc hC
  unfold cTurned at hc
  split at hc
  case h_2 => cases hc
  rename_i g
  cases hc
  refine ⟨by simp only [List.length_cons, List.length_nil, tab35]; omega, rfl, ?_⟩
  intro X hP hT hr
  have hG : MGood X.P X.T := by rw [hP, hT]; exact good35 hB
  unfold tab35 at hT
  have hX := Bool.not_true
  simp only [Tryd.f35, argEnv, ioList, ioB]
  refine r_seq ?_
  have n1 := hC.one
  have n2 := hC.most
  refine q_region hG ?_ ?_ -- R0
  · first | trivial | omega | (simp; done) | (simp; omega)
  refine k_seq ?_
  refine r_seq ?_
  refine q_region hG ?_ ?_ -- R1
  · try simp only [and_true, true_and]
    exact room_g hC
  refine k_seq ?_
  refine r_seq ?_
  refine r_seq ?_
  refine q_region hG ?_ ?_ -- R2
  · first | trivial | omega | (simp; done) | (simp; omega)
  refine k_seq ?_
  refine j_block ?_
  refine j_loop (fun (z : Nat) => (⟨[(0, .l (.z (.opt (.st (.st (.slice (.slice (.int .i64)))))) (some g))), (2, .l (.z (.opt (.st (.st (.slice (.slice (.int .i64)))))) none)), (3, .l (.ownP 17 0)), (22, .l (.z (.slice (.slice (.int .i64))) g)), (23, .l (.z (.int .i64) (g.length : Int))), (24, .l (.z (.int .i64) (z : Int)))], [(17, .box 73 [.ownM 14]), (14, .mat (.int .i64) 36 3 (canR (trK g z)) (canI g.length))]⟩ : AState)) (fun z => z ≤ g.length) (fun z => g.length - z) 0 ?_ ?_ ?_
  · simp only [ml0, ml1, Nat.reduceLT, Nat.reduceEqDiff, Nat.reduceAdd, Nat.reduceMul, Nat.reduceSub, Nat.reduceLeDiff, Nat.reduceBEq, Nat.reduceBNe, reduceIte, reduceDIte, reduceCtorEq]
    exact ⟨rfl, rfl, (canR_rep _), rfl⟩
  · omega
  · rintro k g1
    try dsimp only at g1
    refine r_seq ?_
    refine q_region hG ?_ ?_ -- R3
    · first | trivial | omega | (simp; done) | (simp; omega)
    refine k_seq ?_
    refine r_seq ?_
    refine q_cond ?_ ?_
    · intro hb0
      try simp only [decide_eq_true_eq, decide_eq_false_iff_not, beq_iff_eq, bne_iff_ne, Bool.not_eq_true', Bool.and_eq_true] at hb0
      try simp only [nth_gi, nth_row] at hb0
      refine r_skip ?_
      refine k_seq ?_
      refine r_seq ?_
      refine j_block ?_
      refine r_seq ?_
      refine q_region hG ?_ ?_ -- R4
      · first | trivial | omega | (simp; done) | (simp; omega)
      refine k_seq ?_
      refine r_seq ?_
      refine q_region hG ?_ ?_ -- R5
      · first | trivial | omega | (simp; done) | (simp; omega)
      refine k_seq ?_
      refine j_block ?_
      refine j_loop (fun (z : Nat) => (⟨[(0, .l (.z (.opt (.st (.st (.slice (.slice (.int .i64)))))) (some g))), (2, .l (.z (.opt (.st (.st (.slice (.slice (.int .i64)))))) none)), (3, .l (.ownP 17 0)), (22, .l (.z (.slice (.slice (.int .i64))) g)), (23, .l (.z (.int .i64) (g.length : Int))), (24, .l (.z (.int .i64) (k : Int))), (4, .l (.z (.int .i64) (k : Int))), (29, .l (.z (.slice (.int .i64)) (row g k))), (30, .l (.z (.int .i64) ((row g k).length : Int))), (31, .l (.z (.int .i64) (z : Int)))], [(17, .box 73 [.ownM 14]), (14, .mat (.int .i64) 36 3 (canR (trJ g k z (trK g k))) (canI g.length))]⟩ : AState)) (fun z => z ≤ (row g k).length) (fun z => (row g k).length - z) 0 ?_ ?_ ?_
      · simp only [ml0, ml1, Nat.reduceLT, Nat.reduceEqDiff, Nat.reduceAdd, Nat.reduceMul, Nat.reduceSub, Nat.reduceLeDiff, Nat.reduceBEq, Nat.reduceBNe, reduceIte, reduceDIte, reduceCtorEq]
        exact ⟨rfl, rfl, rfl, rfl⟩
      · omega
      · rintro j g2
        try dsimp only at g2
        have e7 := row_len hC k
        refine r_seq ?_
        refine q_region hG ?_ ?_ -- R6
        · first | trivial | omega | (simp; done) | (simp; omega)
        refine k_seq ?_
        refine r_seq ?_
        refine q_cond ?_ ?_
        · intro hb1
          try simp only [decide_eq_true_eq, decide_eq_false_iff_not, beq_iff_eq, bne_iff_ne, Bool.not_eq_true', Bool.and_eq_true] at hb1
          try simp only [nth_gi, nth_row] at hb1
          have hj : j < (row g k).length := by omega
          obtain ⟨w1, w2⟩ := row_at' hC hj
          refine r_skip ?_
          refine k_seq ?_
          refine r_seq ?_
          refine j_block ?_
          refine r_seq ?_
          refine q_region hG ?_ ?_ -- R7
          · try simp only [and_true, true_and]
            omega
          refine k_seq ?_
          refine q_draw hG ?_ ?_ -- R8
          · try simp only [and_true, true_and]
            exact push_ok (trJ_l g k j) w1 w2 (trJ_row hC (by omega))
          refine k_block ?_
          refine k_seq ?_
          refine r_canon 14 (t := .int .i64) (push (trJ g k j (trK g k)) (gi (row g k) j).toNat k) (by rfl) (by decide) (push_can' (n := g.length) (ys := [(k : Int)]) (trJ_l g k j) (show (gi (row g k) j).toNat < g.length by omega)).1 (push_can' (n := g.length) (ys := [(k : Int)]) (trJ_l g k j) (show (gi (row g k) j).toNat < g.length by omega)).2.1 (push_can' (n := g.length) (ys := [(k : Int)]) (trJ_l g k j) (show (gi (row g k) j).toNat < g.length by omega)).2.2 (by simp only [hT, tab35, mx0, mx1, mx2, mx3, mx4, mx5, mx6, effOp, endCall, callOp, appendOp, sliceLV, Ty.fieldTy, Ty.fieldOf, Nat.reduceLT, Nat.reduceEqDiff, Nat.reduceAdd, Nat.reduceMul, Nat.reduceSub, Nat.reduceLeDiff, Nat.reduceBEq, Nat.reduceBNe, reduceIte, reduceDIte, reduceCtorEq]; rfl) ?_
          refine q_region hG ?_ ?_ -- R9
          · first | trivial | omega | (simp; done) | (simp; omega)
          show ∃ z, _
          simp only [ml0, ml1, Nat.reduceLT, Nat.reduceEqDiff, Nat.reduceAdd, Nat.reduceMul, Nat.reduceSub, Nat.reduceLeDiff, Nat.reduceBEq, Nat.reduceBNe, reduceIte, reduceDIte, reduceCtorEq]
          exact ⟨j + 1, by rw [wi (by omega) (by omega)]; simp, by rw [trJ_snoc hj], by rw [push_len, trJ_l], by omega, by omega⟩
        · intro hb1
          try simp only [decide_eq_true_eq, decide_eq_false_iff_not, beq_eq_false_iff_ne, bne_eq_false_iff_eq, Bool.not_eq_false', Bool.and_eq_false_imp] at hb1
          try simp only [nth_gi, nth_row] at hb1
          refine r_exit ?_
          refine k_seq_exit ?_
          refine k_round_exit ?_
          refine k_block_exit ?_
          refine k_block ?_
          refine k_seq ?_
          refine q_region hG ?_ ?_ -- R10
          · first | trivial | omega | (simp; done) | (simp; omega)
          show ∃ z, _
          simp only [ml0, ml1, Nat.reduceLT, Nat.reduceEqDiff, Nat.reduceAdd, Nat.reduceMul, Nat.reduceSub, Nat.reduceLeDiff, Nat.reduceBEq, Nat.reduceBNe, reduceIte, reduceDIte, reduceCtorEq]
          exact ⟨k + 1, by rw [wi (by omega) (by omega)]; simp, by rw [trJ_end (by omega)], by omega, by omega⟩
    · intro hb0
      try simp only [decide_eq_true_eq, decide_eq_false_iff_not, beq_eq_false_iff_ne, bne_eq_false_iff_eq, Bool.not_eq_false', Bool.and_eq_false_imp] at hb0
      try simp only [nth_gi, nth_row] at hb0
      refine r_exit ?_
      refine k_seq_exit ?_
      refine k_round_exit ?_
      refine k_block_exit ?_
      refine k_seq ?_
      refine r_seq ?_
      refine r_thawM 14 (t := .int .i64) (trK g k) (by rfl) (trK_len g k).symm (by simp only [hT, tab35, mx0, mx1, mx2, mx3, mx4, mx5, mx6, effOp, endCall, callOp, appendOp, sliceLV, Ty.fieldTy, Ty.fieldOf, Nat.reduceLT, Nat.reduceEqDiff, Nat.reduceAdd, Nat.reduceMul, Nat.reduceSub, Nat.reduceLeDiff, Nat.reduceBEq, Nat.reduceBNe, reduceIte, reduceDIte, reduceCtorEq]; rfl) ?_
      refine r_thawP 17 (.st (.st (.slice (.slice (.int .i64))))) (x := trK g k) (by rfl) (by rfl) (by simp only [hT, tab35, mx0, mx1, mx2, mx3, mx4, mx5, mx6, effOp, endCall, callOp, appendOp, sliceLV, Ty.fieldTy, Ty.fieldOf, Nat.reduceLT, Nat.reduceEqDiff, Nat.reduceAdd, Nat.reduceMul, Nat.reduceSub, Nat.reduceLeDiff, Nat.reduceBEq, Nat.reduceBNe, reduceIte, reduceDIte, reduceCtorEq]; rfl) ?_
      refine q_region hG ?_ ?_ -- R11
      · first | trivial | omega | (simp; done) | (simp; omega)
      refine k_seq ?_
      refine r_ret ?_
      refine ⟨[], ?_⟩
      simp only [hT, tab35, mr0, mr1, mr2, isNilP, Nat.reduceLT, Nat.reduceEqDiff, Nat.reduceAdd, Nat.reduceMul, Nat.reduceSub, Nat.reduceLeDiff, Nat.reduceBEq, Nat.reduceBNe, reduceIte, reduceDIte, reduceCtorEq]
      have hk : k = g.length := by omega
      rw [hk]; rfl

end Go.Proofs.YtcopdikdkkdlfaaDoor
end

section
/- The functions of the package graph, one after the other: each meets its contract. -/
set_option linter.unusedSimpArgs false
set_option linter.unusedVariables false
set_option maxRecDepth 100000
namespace Go.Proofs.YtcopdikdkkdlfaaDoor
open Go Go.Cm Go.Cm.Gr Go.Proofs

def tab20 (B : Base) : Tab := { types := [(27, (.slice (.slice (.int .i64)))), (37, (.slice (.int .u64)))], elems := [], cons := [(34, cReadN)], hint := [], N := 11, base := B }
theorem good20 {B : Base} (hB : Tabs B) : MGood Tryd.prog (tab20 B) := ⟨⟨types_cons ty27 (types_cons ty37 (types_nil)), elems_nil, by simp only [tab20, ioB]; omega⟩, cons_ok (cals_cons (cal_ok Tryd.func34 (by kernel_rfl) rfl (valid34n hB)) (cals_nil)), by kernel_rfl⟩
def cCheck : Con := fun l os => match l, os with
  | [.z (.slice (.slice (.int .i64))) g], [] => some (g.length ≤ 1000000 ∧ (∀ r ∈ g, r.length ≤ 1000000), [.z (.int .i64) (rdE g [])], [])
  | _, _ => none

theorem valid20 {B : Base} (hB : Tabs B) : Valid B Tryd.prog 20 cCheck := by
  refine valid_of_J (T := tab20 B) (good20 hB).tab Tryd.func20 rfl rfl rfl ?_
  intro args os C rs os' hc hC
  unfold cCheck at hc
  split at hc
  case h_2 => cases hc
  rename_i g
  cases hc
  refine ⟨by simp only [List.length_cons, List.length_nil, tab20]; omega, rfl, ?_⟩
  intro X hP hT hr
  have hG : MGood X.P X.T := by rw [hP, hT]; exact good20 hB
  unfold tab20 at hT
  have hX := And.intro (@cRead.eq_1) <| @cReadN.eq_1
  simp only [Tryd.f20, argEnv, ioList, ioB]
  refine r_seq ?_
  refine q_region hG ?_ ?_ -- R0
  · first | trivial | omega | (simp; done) | (simp; omega)
  refine k_seq ?_
  refine r_seq ?_
  refine q_region hG ?_ ?_ -- R1
  · try simp only [and_true, true_and]
    exact ⟨hC.1, hC.2, by simp⟩
  refine k_seq ?_
  refine r_seq ?_
  refine q_region hG ?_ ?_ -- R2
  · first | trivial | omega | (simp; done) | (simp; omega)
  refine k_seq ?_
  refine r_ret ?_
  refine ⟨[], ?_⟩
  simp only [hT, tab20, mr0, mr1, mr2, isNilP, Nat.reduceLT, Nat.reduceEqDiff, Nat.reduceAdd, Nat.reduceMul, Nat.reduceSub, Nat.reduceLeDiff, Nat.reduceBEq, Nat.reduceBNe, reduceIte, reduceDIte, reduceCtorEq]
  skip

def cCheckN : Con := nilCon [some (.slice (.slice (.int .i64)))] cCheck
theorem valid20n {B : Base} (hB : Tabs B) : Valid B Tryd.prog 20 cCheckN := valid_nil _ (valid20 hB)


def tab14 (B : Base) : Tab := { types := [(27, (.slice (.slice (.int .i64)))), (30, (.int .u64)), (32, (.int .i64)), (37, (.slice (.int .u64))), (64, (.opt (.st (.st (.slice (.slice (.int .i64)))))))], elems := [(37, 30)], cons := [(34, cRead), (36, cReached)], hint := [], N := 21, base := B }
theorem good14 {B : Base} (hB : Tabs B) : MGood Tryd.prog (tab14 B) := ⟨⟨types_cons ty27 (types_cons ty30 (types_cons ty32 (types_cons ty37 (types_cons ty64 (types_nil))))), elems_cons (by kernel_rfl) (elems_nil), by simp only [tab14, ioB]; omega⟩, cons_ok (cals_cons (cal_ok Tryd.func34 (by kernel_rfl) rfl (valid34 hB)) (cals_cons (cal_ok Tryd.func36 (by kernel_rfl) rfl (valid36 hB)) (cals_nil))), by kernel_rfl⟩
def cReach : Con := fun l os => match l, os with
  | [.z (.slice (.slice (.int .i64))) g, .z (.int .u64) s], [] => some (g.length ≤ 1000000 ∧ (∀ r ∈ g, r.length ≤ 1000000) ∧ U64 s, [.z (.int .u64) (if rdE g [s] = 0 then (reach g s.toNat : Int) else 0), .z (.int .i64) (rdE g [s])], [])
  | _, _ => none

theorem valid14 {B : Base} (hB : Tabs B) : Valid B Tryd.prog 14 cReach := by
  refine valid_of_J (T := tab14 B) (good14 hB).tab Tryd.func14 rfl rfl rfl ?_
  intro args os C rs os' hc hC
  unfold cReach at hc
  split at hc
  case h_2 => cases hc
  rename_i g s
  cases hc
  refine ⟨by simp only [List.length_cons, List.length_nil, tab14]; omega, rfl, ?_⟩
  intro X hP hT hr
  have hG : MGood X.P X.T := by rw [hP, hT]; exact good14 hB
  unfold tab14 at hT
  have hX := And.intro (@cReached.eq_1) <| @cRead.eq_1
  simp only [Tryd.f14, argEnv, ioList, ioB]
  refine r_seq ?_
  refine q_region hG ?_ ?_ -- R0
  · first | trivial | omega | (simp; done) | (simp; omega)
  refine k_seq ?_
  refine r_seq ?_
  refine q_region hG ?_ ?_ -- R1
  · try simp only [and_true, true_and]
    exact ⟨hC.1, hC.2.1, fun x (hx : x ∈ [s]) => by rw [List.mem_singleton.1 hx]; exact hC.2.2⟩
  refine k_seq ?_
  refine r_seq ?_
  refine r_seq ?_
  refine q_region hG ?_ ?_ -- R2
  · first | trivial | omega | (simp; done) | (simp; omega)
  refine k_seq ?_
  refine q_cond ?_ ?_
  · intro hb0
    try simp only [decide_eq_true_eq, decide_eq_false_iff_not, beq_iff_eq, bne_iff_ne, Bool.not_eq_true', Bool.and_eq_true] at hb0
    try simp only [nth_gi, nth_row] at hb0
    refine r_seq ?_
    refine q_region hG ?_ ?_ -- R3
    · first | trivial | omega | (simp; done) | (simp; omega)
    refine k_seq ?_
    refine r_ret ?_
    refine k_seq_ret ?_
    refine ⟨[], ?_⟩
    simp only [hT, tab14, mr0, mr1, mr2, isNilP, Nat.reduceLT, Nat.reduceEqDiff, Nat.reduceAdd, Nat.reduceMul, Nat.reduceSub, Nat.reduceLeDiff, Nat.reduceBEq, Nat.reduceBNe, reduceIte, reduceDIte, reduceCtorEq]
    rw [if_neg hb0]
  · intro hb0
    try simp only [decide_eq_true_eq, decide_eq_false_iff_not, beq_eq_false_iff_ne, bne_eq_false_iff_eq, Bool.not_eq_false', Bool.and_eq_false_imp] at hb0
    try simp only [nth_gi, nth_row] at hb0
    have hb0 : rdE g [s] = 0 := by simpa using hb0
    obtain ⟨q1, q2, q3⟩ := rd_ok hb0
    have q3 := q3 s (List.mem_singleton.2 rfl)
    rw [q1]
    refine r_skip ?_
    refine k_seq ?_
    refine r_seq ?_
    refine q_region hG ?_ ?_ -- R4
    · try simp only [and_true, true_and]
      exact ⟨q2, hC.2.2, q3⟩
    refine k_seq ?_
    refine r_ret ?_
    refine ⟨[], ?_⟩
    simp only [hT, tab14, mr0, mr1, mr2, isNilP, Nat.reduceLT, Nat.reduceEqDiff, Nat.reduceAdd, Nat.reduceMul, Nat.reduceSub, Nat.reduceLeDiff, Nat.reduceBEq, Nat.reduceBNe, reduceIte, reduceDIte, reduceCtorEq]
    rw [if_pos hb0, hb0]
    simp

def tab13 (B : Base) : Tab := { types := [(27, (.slice (.slice (.int .i64)))), (30, (.int .u64)), (32, (.int .i64)), (37, (.slice (.int .u64))), (64, (.opt (.st (.st (.slice (.slice (.int .i64)))))))], elems := [(37, 30)], cons := [(34, cRead), (35, cTurned), (36, cReached)], hint := [], N := 22, base := B }
theorem good13 {B : Base} (hB : Tabs B) : MGood Tryd.prog (tab13 B) := ⟨⟨types_cons ty27 (types_cons ty30 (types_cons ty32 (types_cons ty37 (types_cons ty64 (types_nil))))), elems_cons (by kernel_rfl) (elems_nil), by simp only [tab13, ioB]; omega⟩, cons_ok (cals_cons (cal_ok Tryd.func34 (by kernel_rfl) rfl (valid34 hB)) (cals_cons (cal_ok Tryd.func35 (by kernel_rfl) rfl (valid35 hB)) (cals_cons (cal_ok Tryd.func36 (by kernel_rfl) rfl (valid36 hB)) (cals_nil)))), by kernel_rfl⟩
def cBack : Con := fun l os => match l, os with
  | [.z (.slice (.slice (.int .i64))) g, .z (.int .u64) s], [] => some (g.length ≤ 1000000 ∧ (∀ r ∈ g, r.length ≤ 1000000) ∧ U64 s, [.z (.int .u64) (if rdE g [s] = 0 then (back g s.toNat : Int) else 0), .z (.int .i64) (rdE g [s])], [])
  | _, _ => none

theorem valid13 {B : Base} (hB : Tabs B) : Valid B Tryd.prog 13 cBack := by
  refine valid_of_J (T := tab13 B) (good13 hB).tab Tryd.func13 rfl rfl rfl ?_
  intro args os C rs os' hc hC
  unfold cBack at hc
  split at hc
  case h_2 => cases hc
  rename_i g s
  cases hc
  refine ⟨by simp only [List.length_cons, List.length_nil, tab13]; omega, rfl, ?_⟩
  intro X hP hT hr
  have hG : MGood X.P X.T := by rw [hP, hT]; exact good13 hB
  unfold tab13 at hT
  have hX := And.intro (@cReached.eq_1) <| And.intro (@cRead.eq_1) <| @cTurned.eq_1
  simp only [Tryd.f13, argEnv, ioList, ioB]
  refine r_seq ?_
  refine q_region hG ?_ ?_ -- R0
  · first | trivial | omega | (simp; done) | (simp; omega)
  refine k_seq ?_
  refine r_seq ?_
  refine q_region hG ?_ ?_ -- R1
  · try simp only [and_true, true_and]
    exact ⟨hC.1, hC.2.1, fun x (hx : x ∈ [s]) => by rw [List.mem_singleton.1 hx]; exact hC.2.2⟩
  refine k_seq ?_
  refine r_seq ?_
  refine r_seq ?_
  refine q_region hG ?_ ?_ -- R2
  · first | trivial | omega | (simp; done) | (simp; omega)
  refine k_seq ?_
  refine q_cond ?_ ?_
  · intro hb0
    try simp only [decide_eq_true_eq, decide_eq_false_iff_not, beq_iff_eq, bne_iff_ne, Bool.not_eq_true', Bool.and_eq_true] at hb0
    try simp only [nth_gi, nth_row] at hb0
    refine r_seq ?_
    refine q_region hG ?_ ?_ -- R3
    · first | trivial | omega | (simp; done) | (simp; omega)
    refine k_seq ?_
    refine r_ret ?_
    refine k_seq_ret ?_
    refine ⟨[], ?_⟩
    simp only [hT, tab13, mr0, mr1, mr2, isNilP, Nat.reduceLT, Nat.reduceEqDiff, Nat.reduceAdd, Nat.reduceMul, Nat.reduceSub, Nat.reduceLeDiff, Nat.reduceBEq, Nat.reduceBNe, reduceIte, reduceDIte, reduceCtorEq]
    rw [if_neg hb0]
  · intro hb0
    try simp only [decide_eq_true_eq, decide_eq_false_iff_not, beq_eq_false_iff_ne, bne_eq_false_iff_eq, Bool.not_eq_false', Bool.and_eq_false_imp] at hb0
    try simp only [nth_gi, nth_row] at hb0
    have hb0 : rdE g [s] = 0 := by simpa using hb0
    obtain ⟨q1, q2, q3⟩ := rd_ok hb0
    have q3 := q3 s (List.mem_singleton.2 rfl)
    rw [q1]
    refine r_skip ?_
    refine k_seq ?_
    refine r_seq ?_
    refine q_region hG ?_ ?_ -- R4
    · try simp only [and_true, true_and]
      exact ⟨q2, trn_val q2, hC.2.2, by rw [trn_len]; exact q3⟩
    refine k_seq ?_
    refine r_ret ?_
    refine ⟨[], ?_⟩
    simp only [hT, tab13, mr0, mr1, mr2, isNilP, Nat.reduceLT, Nat.reduceEqDiff, Nat.reduceAdd, Nat.reduceMul, Nat.reduceSub, Nat.reduceLeDiff, Nat.reduceBEq, Nat.reduceBNe, reduceIte, reduceDIte, reduceCtorEq]
    rw [if_pos hb0, hb0, trn_reach q2 q3]
    simp

def tab17 (B : Base) : Tab := { types := [(27, (.slice (.slice (.int .i64)))), (30, (.int .u64)), (32, (.int .i64)), (37, (.slice (.int .u64))), (64, (.opt (.st (.st (.slice (.slice (.int .i64)))))))], elems := [(37, 30)], cons := [(34, cRead), (43, cSteps)], hint := [], N := 21, base := B }
theorem good17 {B : Base} (hB : Tabs B) : MGood Tryd.prog (tab17 B) := ⟨⟨types_cons ty27 (types_cons ty30 (types_cons ty32 (types_cons ty37 (types_cons ty64 (types_nil))))), elems_cons (by kernel_rfl) (elems_nil), by simp only [tab17, ioB]; omega⟩, cons_ok (cals_cons (cal_ok Tryd.func34 (by kernel_rfl) rfl (valid34 hB)) (cals_cons (cal_ok Tryd.func43 (by kernel_rfl) rfl (valid43 hB)) (cals_nil))), by kernel_rfl⟩
def cFar : Con := fun l os => match l, os with
  | [.z (.slice (.slice (.int .i64))) g, .z (.int .u64) s], [] => some (g.length ≤ 1000000 ∧ (∀ r ∈ g, r.length ≤ 1000000) ∧ U64 s, [.z (.slice (.int .i64)) (if rdE g [s] = 0 then (far g s.toNat) else []), .z (.int .i64) (rdE g [s])], [])
  | _, _ => none

theorem valid17 {B : Base} (hB : Tabs B) : Valid B Tryd.prog 17 cFar := by
  refine valid_of_J (T := tab17 B) (good17 hB).tab Tryd.func17 rfl rfl rfl ?_
  intro args os C rs os' hc hC
  unfold cFar at hc
  split at hc
  case h_2 => cases hc
  rename_i g s
  cases hc
  refine ⟨by simp only [List.length_cons, List.length_nil, tab17]; omega, rfl, ?_⟩
  intro X hP hT hr
  have hG : MGood X.P X.T := by rw [hP, hT]; exact good17 hB
  unfold tab17 at hT
  have hX := And.intro (@cRead.eq_1) <| @cSteps.eq_1
  simp only [Tryd.f17, argEnv, ioList, ioB]
  refine r_seq ?_
  refine q_region hG ?_ ?_ -- R0
  · first | trivial | omega | (simp; done) | (simp; omega)
  refine k_seq ?_
  refine r_seq ?_
  refine q_region hG ?_ ?_ -- R1
  · try simp only [and_true, true_and]
    exact ⟨hC.1, hC.2.1, fun x (hx : x ∈ [s]) => by rw [List.mem_singleton.1 hx]; exact hC.2.2⟩
  refine k_seq ?_
  refine r_seq ?_
  refine r_seq ?_
  refine q_region hG ?_ ?_ -- R2
  · first | trivial | omega | (simp; done) | (simp; omega)
  refine k_seq ?_
  refine q_cond ?_ ?_
  · intro hb0
    try simp only [decide_eq_true_eq, decide_eq_false_iff_not, beq_iff_eq, bne_iff_ne, Bool.not_eq_true', Bool.and_eq_true] at hb0
    try simp only [nth_gi, nth_row] at hb0
    refine r_seq ?_
    refine q_region hG ?_ ?_ -- R3
    · first | trivial | omega | (simp; done) | (simp; omega)
    refine k_seq ?_
    refine r_ret ?_
    refine k_seq_ret ?_
    refine ⟨[], ?_⟩
    simp only [hT, tab17, mr0, mr1, mr2, isNilP, Nat.reduceLT, Nat.reduceEqDiff, Nat.reduceAdd, Nat.reduceMul, Nat.reduceSub, Nat.reduceLeDiff, Nat.reduceBEq, Nat.reduceBNe, reduceIte, reduceDIte, reduceCtorEq]
    rw [if_neg hb0]
  · intro hb0
    try simp only [decide_eq_true_eq, decide_eq_false_iff_not, beq_eq_false_iff_ne, bne_eq_false_iff_eq, Bool.not_eq_false', Bool.and_eq_false_imp] at hb0
    try simp only [nth_gi, nth_row] at hb0
    have hb0 : rdE g [s] = 0 := by simpa using hb0
    obtain ⟨q1, q2, q3⟩ := rd_ok hb0
    have q3 := q3 s (List.mem_singleton.2 rfl)
    rw [q1]
    refine r_skip ?_
    refine k_seq ?_
    refine r_seq ?_
    refine q_region hG ?_ ?_ -- R4
    · try simp only [and_true, true_and]
      exact ⟨q2, hC.2.2, q3⟩
    refine k_seq ?_
    refine r_ret ?_
    refine ⟨[], ?_⟩
    simp only [hT, tab17, mr0, mr1, mr2, isNilP, Nat.reduceLT, Nat.reduceEqDiff, Nat.reduceAdd, Nat.reduceMul, Nat.reduceSub, Nat.reduceLeDiff, Nat.reduceBEq, Nat.reduceBNe, reduceIte, reduceDIte, reduceCtorEq]
    rw [if_pos hb0, hb0]
    simp

end Go.Proofs.YtcopdikdkkdlfaaDoor
end

section
/- The functions of the package graph, one after the other: each meets its contract. -/
set_option linter.unusedSimpArgs false
set_option linter.unusedVariables false
set_option maxRecDepth 100000
namespace Go.Proofs.YtcopdikdkkdlfaaDoor
open Go Go.Cm Go.Cm.Gr Go.Proofs

def tab144 (B : Base) : Tab := { types := [(3, (.int .i64)), (36, (.slice (.int .i64)))], elems := [], cons := [], hint := [], N := 19, base := B }
theorem good144 {B : Base} (hB : Tabs B) : MGood Tryd.prog (tab144 B) := ⟨⟨types_cons ty3 (types_cons ty36 (types_nil)), elems_nil, by simp only [tab144, ioB]; omega⟩, cons_nil rfl, by kernel_rfl⟩
def cIdxL : Con := fun l os => match l, os with
  | [.ownS 10000000, .z (.int .i64) v], [.arr (.int .i64) T s] => some (s.length ≤ 1000000, [.z (.int .i64) (idxI s v)], [.arr (.int .i64) T s])
  | _, _ => none

theorem valid144 {B : Base} (hB : Tabs B) : Valid B Tryd.prog 44 cIdxL := by
  refine valid_of_J (T := tab144 B) (good144 hB).tab Tryd.func44 rfl rfl rfl ?_
  intro args os C rs os' hc hC
  unfold cIdxL at hc
  split at hc
  case h_2 => cases hc
  rename_i v T s
  cases hc
  refine ⟨by simp only [List.length_cons, List.length_nil, tab144]; omega, rfl, ?_⟩
  intro X hP hT hr
  have hG : MGood X.P X.T := by rw [hP, hT]; exact good144 hB
  unfold tab144 at hT
  have hX := Bool.not_true
  simp only [Tryd.f44, argEnv, ioList, ioB]
  refine r_seq ?_
  refine q_region hG ?_ ?_ -- R0
  · first | trivial | omega | (simp; done) | (simp; omega)
  refine k_seq ?_
  refine r_seq ?_
  refine r_seq ?_
  refine q_region hG ?_ ?_ -- R1
  · first | trivial | omega | (simp; done) | (simp; omega)
  refine k_seq ?_
  refine j_block ?_
  refine j_loop (fun (z : Nat) => (⟨[(0, .l (.ownS 10000000)), (1, .l (.z (.int .i64) v)), (6, .l (.ownS 10000000)), (7, .l (.z (.int .i64) (s.length : Int))), (8, .l (.z (.int .i64) (z : Int)))], [(10000000, .arr (.int .i64) T s)]⟩ : AState)) (fun z => z ≤ s.length ∧ ∀ i, i < z → gi s i ≠ v) (fun z => s.length - z) 0 ?_ ?_ ?_
  · simp only [ml0, ml1, Nat.reduceLT, Nat.reduceEqDiff, Nat.reduceAdd, Nat.reduceMul, Nat.reduceSub, Nat.reduceLeDiff, Nat.reduceBEq, Nat.reduceBNe, reduceIte, reduceDIte, reduceCtorEq]
    simp [get?, del, AV.leq, LV.leq, AV.get, LV.get]
  · exact ⟨Nat.zero_le _, fun i hi => by omega⟩
  · rintro k ⟨g1, g2⟩
    try dsimp only at g1 g2
    refine r_seq ?_
    refine q_region hG ?_ ?_ -- R2
    · first | trivial | omega | (simp; done) | (simp; omega)
    refine k_seq ?_
    refine r_seq ?_
    refine q_cond ?_ ?_
    · intro hb0
      try simp only [decide_eq_true_eq, decide_eq_false_iff_not, beq_iff_eq, bne_iff_ne, Bool.not_eq_true', Bool.and_eq_true] at hb0
      try simp only [nth_gi, nth_row] at hb0
      refine r_skip ?_
      refine k_seq ?_
      refine r_seq ?_
      refine j_block ?_
      refine r_seq ?_
      refine q_region hG ?_ ?_ -- R3
      · first | trivial | omega | (simp; done) | (simp; omega)
      refine k_seq ?_
      refine r_seq ?_
      refine q_region hG ?_ ?_ -- R4
      · try simp only [and_true, true_and]
        exact ⟨⟨by omega, by omega⟩, by omega⟩
      refine k_seq ?_
      refine q_cond ?_ ?_
      · intro hb1
        try simp only [decide_eq_true_eq, decide_eq_false_iff_not, beq_iff_eq, bne_iff_ne, Bool.not_eq_true', Bool.and_eq_true] at hb1
        try simp only [nth_gi, nth_row] at hb1
        refine r_seq ?_
        refine q_region hG ?_ ?_ -- R5
        · first | trivial | omega | (simp; done) | (simp; omega)
        refine k_seq ?_
        refine r_ret ?_
        refine k_block_ret ?_
        refine k_seq_ret ?_
        refine k_round_ret ?_
        refine k_block_ret ?_
        refine k_seq_ret ?_
        refine ⟨[], ?_⟩
        simp only [hT, tab144, mr0, mr1, mr2, isNilP, Nat.reduceLT, Nat.reduceEqDiff, Nat.reduceAdd, Nat.reduceMul, Nat.reduceSub, Nat.reduceLeDiff, Nat.reduceBEq, Nat.reduceBNe, reduceIte, reduceDIte, reduceCtorEq]
        exact ⟨(idx_at (by omega) g2 (by simpa using hb1.symm)).symm, by simp⟩
      · intro hb1
        try simp only [decide_eq_true_eq, decide_eq_false_iff_not, beq_eq_false_iff_ne, bne_eq_false_iff_eq, Bool.not_eq_false', Bool.and_eq_false_imp] at hb1
        try simp only [nth_gi, nth_row] at hb1
        refine r_skip ?_
        refine k_block ?_
        refine k_seq ?_
        refine q_region hG ?_ ?_ -- R6
        · first | trivial | omega | (simp; done) | (simp; omega)
        show ∃ z, _
        simp only [ml0, ml1, Nat.reduceLT, Nat.reduceEqDiff, Nat.reduceAdd, Nat.reduceMul, Nat.reduceSub, Nat.reduceLeDiff, Nat.reduceBEq, Nat.reduceBNe, reduceIte, reduceDIte, reduceCtorEq]
        exact ⟨k + 1, by rw [wi (by omega) (by omega)]; simp, by omega, fun i hi => by rcases Nat.lt_succ_iff_lt_or_eq.1 hi with h | h; exact g2 i h; subst h; exact fun e => hb1 e.symm, by omega⟩
    · intro hb0
      try simp only [decide_eq_true_eq, decide_eq_false_iff_not, beq_eq_false_iff_ne, bne_eq_false_iff_eq, Bool.not_eq_false', Bool.and_eq_false_imp] at hb0
      try simp only [nth_gi, nth_row] at hb0
      refine r_exit ?_
      refine k_seq_exit ?_
      refine k_round_exit ?_
      refine k_block_exit ?_
      refine k_seq ?_
      refine r_seq ?_
      refine q_region hG ?_ ?_ -- R7
      · first | trivial | omega | (simp; done) | (simp; omega)
      refine k_seq ?_
      refine r_ret ?_
      refine ⟨[], ?_⟩
      simp only [hT, tab144, mr0, mr1, mr2, isNilP, Nat.reduceLT, Nat.reduceEqDiff, Nat.reduceAdd, Nat.reduceMul, Nat.reduceSub, Nat.reduceLeDiff, Nat.reduceBEq, Nat.reduceBNe, reduceIte, reduceDIte, reduceCtorEq]
      exact ⟨(idx_no fun i hi => g2 i (by omega)).symm, by simp⟩

def tab18 (B : Base) : Tab := { types := [(3, (.int .i64)), (27, (.slice (.slice (.int .i64)))), (32, (.int .i64)), (36, (.slice (.int .i64))), (37, (.slice (.int .u64))), (71, (.st (.slice (.slice (.int .i64))))), (73, (.st (.st (.slice (.slice (.int .i64))))))], elems := [(36, 3)], cons := [(34, cReadN), (44, cIdxL)], hint := [], N := 87, io := [(44, [0])], base := B }
theorem good18 {B : Base} (hB : Tabs B) : MGood Tryd.prog (tab18 B) := ⟨⟨types_cons ty3 (types_cons ty27 (types_cons ty32 (types_cons ty36 (types_cons ty37 (types_cons ty71 (types_cons ty73 (types_nil))))))), elems_cons (by kernel_rfl) (elems_nil), by simp only [tab18, ioB]; omega⟩, cons_ok (cals_cons (cal_ok Tryd.func34 (by kernel_rfl) rfl (valid34n hB)) (cals_cons (cal_ok Tryd.func44 (by kernel_rfl) rfl (valid144 hB)) (cals_nil))), by kernel_rfl⟩
def cOrder : Con := fun l os => match l, os with
  | [.z (.slice (.slice (.int .i64))) g], [] => some (g.length ≤ 1000000 ∧ (∀ r ∈ g, r.length ≤ 1000000), [.z (.slice (.int .i64)) (if rdE g [] = 0 then ordV g else []), .z (.int .i64) (if rdE g [] = 0 then ordE g else rdE g [])], [])
  | _, _ => none

theorem valid18 {B : Base} (hB : Tabs B) : Valid B Tryd.prog 18 cOrder := by
  refine valid_of_J (T := tab18 B) (good18 hB).tab Tryd.func18 rfl rfl rfl ?_
  intro args os C rs os' hc hC
  unfold cOrder at hc
  split at hc
  case h_2 => cases hc
  rename_i g
  cases hc
  refine ⟨by simp only [List.length_cons, List.length_nil, tab18]; omega, rfl, ?_⟩
  intro X hP hT hr
  have hG : MGood X.P X.T := by rw [hP, hT]; exact good18 hB
  unfold tab18 at hT
  have hX := And.intro (@cIdxL.eq_1) <| And.intro (@cRead.eq_1) <| @cReadN.eq_1
  simp only [Tryd.f18, argEnv, ioList, ioB]
  refine r_seq ?_
  refine q_region hG ?_ ?_ -- R0
  · first | trivial | omega | (simp; done) | (simp; omega)
  refine k_seq ?_
  refine r_seq ?_
  refine q_region hG ?_ ?_ -- R1
  · try simp only [and_true, true_and]
    exact ⟨hC.1, hC.2, by simp⟩
  refine k_seq ?_
  refine r_seq ?_
  refine r_seq ?_
  refine q_region hG ?_ ?_ -- R2
  · first | trivial | omega | (simp; done) | (simp; omega)
  refine k_seq ?_
  refine q_cond ?_ ?_
  · intro hb0
    try simp only [decide_eq_true_eq, decide_eq_false_iff_not, beq_iff_eq, bne_iff_ne, Bool.not_eq_true', Bool.and_eq_true] at hb0
    try simp only [nth_gi, nth_row] at hb0
    refine r_seq ?_
    refine q_region hG ?_ ?_ -- R3
    · first | trivial | omega | (simp; done) | (simp; omega)
    refine k_seq ?_
    refine r_ret ?_
    refine k_seq_ret ?_
    refine ⟨[], ?_⟩
    simp only [hT, tab18, mr0, mr1, mr2, isNilP, Nat.reduceLT, Nat.reduceEqDiff, Nat.reduceAdd, Nat.reduceMul, Nat.reduceSub, Nat.reduceLeDiff, Nat.reduceBEq, Nat.reduceBNe, reduceIte, reduceDIte, reduceCtorEq]
    rw [if_neg hb0, if_neg hb0]
    exact ⟨rfl, rfl⟩
  · intro hb0
    try simp only [decide_eq_true_eq, decide_eq_false_iff_not, beq_eq_false_iff_ne, bne_eq_false_iff_eq, Bool.not_eq_false', Bool.and_eq_false_imp] at hb0
    try simp only [nth_gi, nth_row] at hb0
    have hb0 : rdE g [] = 0 := by simpa using hb0
    obtain ⟨q1, q2, _⟩ := rd_ok hb0
    have n1 := q2.one
    have n2 := q2.most
    rw [q1]
    refine r_skip ?_
    refine k_seq ?_
    refine r_seq ?_
    refine q_region hG ?_ ?_ -- R4
    · try simp only [and_true, true_and]
      exact ⟨Int.natCast_nonneg _, Int.le_refl _, roomy1 (by rw [Int.toNat_natCast]; exact hC.1)⟩
    refine k_seq ?_
    refine r_seq ?_
    refine r_seq ?_
    refine q_region hG ?_ ?_ -- R5
    · first | trivial | omega | (simp; done) | (simp; omega)
    refine k_seq ?_
    refine j_block ?_
    refine j_loop (fun (z : Nat) => (⟨[(0, .l (.z (.slice (.slice (.int .i64))) g)), (2, .l (.val (.slice none 0 0))), (3, .l (.z (.int .i64) 0)), (4, .l (.z (.opt (.st (.st (.slice (.slice (.int .i64)))))) (some g))), (6, .l (.ownS 25)), (30, .l (.z (.slice (.slice (.int .i64))) g)), (31, .l (.z (.int .i64) (g.length : Int))), (32, .l (.z (.int .i64) (z : Int)))], [(25, .arr (.int .i64) 3 (degK g z))]⟩ : AState)) (fun z => z ≤ g.length) (fun z => g.length - z) 0 ?_ ?_ ?_
    · simp only [ml0, ml1, Nat.reduceLT, Nat.reduceEqDiff, Nat.reduceAdd, Nat.reduceMul, Nat.reduceSub, Nat.reduceLeDiff, Nat.reduceBEq, Nat.reduceBNe, reduceIte, reduceDIte, reduceCtorEq]
      exact ⟨rfl, by rw [degK_zero]; rfl⟩
    · omega
    · rintro k g1
      try dsimp only at g1
      refine r_seq ?_
      refine q_region hG ?_ ?_ -- R6
      · first | trivial | omega | (simp; done) | (simp; omega)
      refine k_seq ?_
      refine r_seq ?_
      refine q_cond ?_ ?_
      · intro hb1
        try simp only [decide_eq_true_eq, decide_eq_false_iff_not, beq_iff_eq, bne_iff_ne, Bool.not_eq_true', Bool.and_eq_true] at hb1
        try simp only [nth_gi, nth_row] at hb1
        refine r_skip ?_
        refine k_seq ?_
        refine r_seq ?_
        refine j_block ?_
        refine r_seq ?_
        refine q_region hG ?_ ?_ -- R7
        · first | trivial | omega | (simp; done) | (simp; omega)
        refine k_seq ?_
        refine r_seq ?_
        refine q_region hG ?_ ?_ -- R8
        · first | trivial | omega | (simp; done) | (simp; omega)
        refine k_seq ?_
        refine j_block ?_
        refine j_loop (fun (z : Nat) => (⟨[(0, .l (.z (.slice (.slice (.int .i64))) g)), (2, .l (.val (.slice none 0 0))), (3, .l (.z (.int .i64) 0)), (4, .l (.z (.opt (.st (.st (.slice (.slice (.int .i64)))))) (some g))), (6, .l (.ownS 25)), (30, .l (.z (.slice (.slice (.int .i64))) g)), (31, .l (.z (.int .i64) (g.length : Int))), (32, .l (.z (.int .i64) (k : Int))), (36, .l (.z (.slice (.int .i64)) (row g k))), (37, .l (.z (.int .i64) ((row g k).length : Int))), (38, .l (.z (.int .i64) (z : Int)))], [(25, .arr (.int .i64) 3 (((row g k).take z).foldl (bump 1) (degK g k)))]⟩ : AState)) (fun z => z ≤ (row g k).length) (fun z => (row g k).length - z) 0 ?_ ?_ ?_
        · simp only [ml0, ml1, Nat.reduceLT, Nat.reduceEqDiff, Nat.reduceAdd, Nat.reduceMul, Nat.reduceSub, Nat.reduceLeDiff, Nat.reduceBEq, Nat.reduceBNe, reduceIte, reduceDIte, reduceCtorEq]
          exact ⟨rfl, rfl, rfl, rfl⟩
        · omega
        · rintro j g2
          try dsimp only at g2
          have e7 := row_len q2 k
          obtain ⟨e1, e2⟩ := up_mid q2 (k := k) (j := j) (by omega) rfl
          refine r_seq ?_
          refine q_region hG ?_ ?_ -- R9
          · first | trivial | omega | (simp; done) | (simp; omega)
          refine k_seq ?_
          refine r_seq ?_
          refine q_cond ?_ ?_
          · intro hb2
            try simp only [decide_eq_true_eq, decide_eq_false_iff_not, beq_iff_eq, bne_iff_ne, Bool.not_eq_true', Bool.and_eq_true] at hb2
            try simp only [nth_gi, nth_row] at hb2
            have hj : j < (row g k).length := by omega
            obtain ⟨w1, w2⟩ := row_at' q2 hj
            refine r_skip ?_
            refine k_seq ?_
            refine r_seq ?_
            refine j_block ?_
            refine r_seq ?_
            refine q_region hG ?_ ?_ -- R10
            · first | trivial | omega | (simp; done) | (simp; omega)
            refine k_seq ?_
            refine q_region hG ?_ ?_ -- R11
            · try simp only [and_true, true_and]
              exact idx2 e1 w1 w2
            refine k_block ?_
            refine k_seq ?_
            refine q_region hG ?_ ?_ -- R12
            · first | trivial | omega | (simp; done) | (simp; omega)
            show ∃ z, _
            simp only [ml0, ml1, Nat.reduceLT, Nat.reduceEqDiff, Nat.reduceAdd, Nat.reduceMul, Nat.reduceSub, Nat.reduceLeDiff, Nat.reduceBEq, Nat.reduceBNe, reduceIte, reduceDIte, reduceCtorEq]
            exact ⟨j + 1, by rw [wi (by omega) (by omega)]; simp, bump_at rfl hj (e2 _ (by omega)) (by omega), by omega, by omega⟩
          · intro hb2
            try simp only [decide_eq_true_eq, decide_eq_false_iff_not, beq_eq_false_iff_ne, bne_eq_false_iff_eq, Bool.not_eq_false', Bool.and_eq_false_imp] at hb2
            try simp only [nth_gi, nth_row] at hb2
            refine r_exit ?_
            refine k_seq_exit ?_
            refine k_round_exit ?_
            refine k_block_exit ?_
            refine k_block ?_
            refine k_seq ?_
            refine q_region hG ?_ ?_ -- R13
            · first | trivial | omega | (simp; done) | (simp; omega)
            show ∃ z, _
            simp only [ml0, ml1, Nat.reduceLT, Nat.reduceEqDiff, Nat.reduceAdd, Nat.reduceMul, Nat.reduceSub, Nat.reduceLeDiff, Nat.reduceBEq, Nat.reduceBNe, reduceIte, reduceDIte, reduceCtorEq]
            exact ⟨k + 1, by rw [wi (by omega) (by omega)]; simp, by rw [List.take_of_length_le (by omega), degK_succ q2], by omega, by omega⟩
      · intro hb1
        try simp only [decide_eq_true_eq, decide_eq_false_iff_not, beq_eq_false_iff_ne, bne_eq_false_iff_eq, Bool.not_eq_false', Bool.and_eq_false_imp] at hb1
        try simp only [nth_gi, nth_row] at hb1
        refine r_exit ?_
        refine k_seq_exit ?_
        refine k_round_exit ?_
        refine k_block_exit ?_
        refine k_seq ?_
        refine r_seq ?_
        refine q_region hG ?_ ?_ -- R14
        · first | trivial | omega | (simp; done) | (simp; omega)
        refine k_seq ?_
        refine r_seq ?_
        refine r_seq ?_
        refine q_region hG ?_ ?_ -- R15
        · first | trivial | omega | (simp; done) | (simp; omega)
        refine k_seq ?_
        refine j_block ?_
        refine j_loop (fun (z : List Nat) => (⟨[(0, .l (.z (.slice (.slice (.int .i64))) g)), (2, .l (.val (.slice none 0 0))), (3, .l (.z (.int .i64) 0)), (4, .l (.z (.opt (.st (.st (.slice (.slice (.int .i64)))))) (some g))), (6, .l (.ownS 25)), (11, .l (.ownS 61)), (51, .l (.z (.int .i64) (g.length : Int))), (52, .l (.z (.int .i64) (z.length : Int)))], [(25, .arr (.int .i64) 3 (degL g z)), (61, .arr (.int .i64) 3 (z.map Int.ofNat))]⟩ : AState)) (fun z => grd g z.length = some z ∧ z.length ≤ g.length) (fun z => g.length - z.length) [] ?_ ?_ ?_
        · simp only [ml0, ml1, Nat.reduceLT, Nat.reduceEqDiff, Nat.reduceAdd, Nat.reduceMul, Nat.reduceSub, Nat.reduceLeDiff, Nat.reduceBEq, Nat.reduceBNe, reduceIte, reduceDIte, reduceCtorEq]
          have hk : k = g.length := by omega
          exact ⟨rfl, by rw [hk, degL_nil], by decide⟩
        · exact ⟨rfl, Nat.zero_le _⟩
        · rintro l ⟨g1, g2⟩
          try dsimp only at g1 g2
          refine r_seq ?_
          refine q_region hG ?_ ?_ -- R16
          · first | trivial | omega | (simp; done) | (simp; omega)
          refine k_seq ?_
          refine r_seq ?_
          refine q_cond ?_ ?_
          · intro hb3
            try simp only [decide_eq_true_eq, decide_eq_false_iff_not, beq_iff_eq, bne_iff_ne, Bool.not_eq_true', Bool.and_eq_true] at hb3
            try simp only [nth_gi, nth_row] at hb3
            refine r_skip ?_
            refine k_seq ?_
            refine r_seq ?_
            refine j_block ?_
            refine r_seq ?_
            refine q_region hG ?_ ?_ -- R17
            · try simp only [and_true, true_and]
              rw [degL_len]
              omega
            refine k_seq ?_
            refine r_seq ?_
            refine r_seq ?_
            refine q_region hG ?_ ?_ -- R18
            · first | trivial | omega | (simp; done) | (simp; omega)
            refine k_seq ?_
            refine q_cond ?_ ?_
            · intro hb4
              try simp only [decide_eq_true_eq, decide_eq_false_iff_not, beq_iff_eq, bne_iff_ne, Bool.not_eq_true', Bool.and_eq_true] at hb4
              try simp only [nth_gi, nth_row] at hb4
              refine r_seq ?_
              refine q_region hG ?_ ?_ -- R19
              · first | trivial | omega | (simp; done) | (simp; omega)
              refine k_seq ?_
              refine r_ret ?_
              refine k_seq_ret ?_
              refine k_block_ret ?_
              refine k_seq_ret ?_
              refine k_round_ret ?_
              refine k_block_ret ?_
              refine k_seq_ret ?_
              refine ⟨[], ?_⟩
              simp only [hT, tab18, mr0, mr1, mr2, isNilP, Nat.reduceLT, Nat.reduceEqDiff, Nat.reduceAdd, Nat.reduceMul, Nat.reduceSub, Nat.reduceLeDiff, Nat.reduceBEq, Nat.reduceBNe, reduceIte, reduceDIte, reduceCtorEq]
              obtain ⟨f1, f2⟩ := ord_stuck g1 (by omega) (pick_neg hb4)
              rw [if_pos hb0, if_pos hb0, f1, f2]
              exact ⟨rfl, rfl⟩
            · intro hb4
              try simp only [decide_eq_true_eq, decide_eq_false_iff_not, beq_eq_false_iff_ne, bne_eq_false_iff_eq, Bool.not_eq_false', Bool.and_eq_false_imp] at hb4
              try simp only [nth_gi, nth_row] at hb4
              obtain ⟨x, hx, hx2⟩ := pick_pos hb4
              obtain ⟨p1, p2, _⟩ := pick_some hx
              rw [hx2]
              refine r_skip ?_
              refine k_seq ?_
              refine r_seq ?_
              refine q_region hG ?_ ?_ -- R20
              · try simp only [and_true, true_and]
                refine roomy1 ?_
                rw [List.length_map]
                omega
              refine k_seq ?_
              refine r_seq ?_
              refine q_region hG ?_ ?_ -- R21
              · try simp only [and_true, true_and]
                rw [degL_len]
                omega
              refine k_seq ?_
              refine r_seq ?_
              refine q_region hG ?_ ?_ -- R22
              · try simp only [and_true, true_and]
                omega
              refine k_seq ?_
              refine j_block ?_
              refine j_loop (fun (z : Nat) => (⟨[(0, .l (.z (.slice (.slice (.int .i64))) g)), (2, .l (.val (.slice none 0 0))), (3, .l (.z (.int .i64) 0)), (4, .l (.z (.opt (.st (.st (.slice (.slice (.int .i64)))))) (some g))), (6, .l (.ownS 25)), (11, .l (.ownS 61)), (51, .l (.z (.int .i64) (g.length : Int))), (52, .l (.z (.int .i64) (l.length : Int))), (72, .l (.z (.slice (.int .i64)) (row g x))), (73, .l (.z (.int .i64) ((row g x).length : Int))), (74, .l (.z (.int .i64) (z : Int)))], [(25, .arr (.int .i64) 3 (((row g x).take z).foldl (bump (-1)) ((degL g l).set x (-1)))), (61, .arr (.int .i64) 3 ((l ++ [x]).map Int.ofNat))]⟩ : AState)) (fun z => z ≤ (row g x).length) (fun z => (row g x).length - z) 0 ?_ ?_ ?_
              · simp only [ml0, ml1, Nat.reduceLT, Nat.reduceEqDiff, Nat.reduceAdd, Nat.reduceMul, Nat.reduceSub, Nat.reduceLeDiff, Nat.reduceBEq, Nat.reduceBNe, reduceIte, reduceDIte, reduceCtorEq]
                exact ⟨rfl, rfl, rfl, rfl, by simp⟩
              · omega
              · rintro j g3
                try dsimp only at g3
                have e7 := row_len q2 x
                obtain ⟨e1, e2⟩ := down_mid q2 (l := l) (x := x) (j := j) p1 rfl
                refine r_seq ?_
                refine q_region hG ?_ ?_ -- R23
                · first | trivial | omega | (simp; done) | (simp; omega)
                refine k_seq ?_
                refine r_seq ?_
                refine q_cond ?_ ?_
                · intro hb5
                  try simp only [decide_eq_true_eq, decide_eq_false_iff_not, beq_iff_eq, bne_iff_ne, Bool.not_eq_true', Bool.and_eq_true] at hb5
                  try simp only [nth_gi, nth_row] at hb5
                  have hj : j < (row g x).length := by omega
                  obtain ⟨w1, w2⟩ := row_at' q2 hj
                  refine r_skip ?_
                  refine k_seq ?_
                  refine r_seq ?_
                  refine j_block ?_
                  refine r_seq ?_
                  refine q_region hG ?_ ?_ -- R24
                  · first | trivial | omega | (simp; done) | (simp; omega)
                  refine k_seq ?_
                  refine q_region hG ?_ ?_ -- R25
                  · try simp only [and_true, true_and]
                    exact idx2 e1 w1 w2
                  refine k_block ?_
                  refine k_seq ?_
                  refine q_region hG ?_ ?_ -- R26
                  · first | trivial | omega | (simp; done) | (simp; omega)
                  show ∃ z, _
                  simp only [ml0, ml1, Nat.reduceLT, Nat.reduceEqDiff, Nat.reduceAdd, Nat.reduceMul, Nat.reduceSub, Nat.reduceLeDiff, Nat.reduceBEq, Nat.reduceBNe, reduceIte, reduceDIte, reduceCtorEq]
                  exact ⟨j + 1, by rw [wi (by omega) (by omega)]; simp, bump_at (c := -1) rfl hj (e2 _ (by omega)) (by omega), by omega, by omega⟩
                · intro hb5
                  try simp only [decide_eq_true_eq, decide_eq_false_iff_not, beq_eq_false_iff_ne, bne_eq_false_iff_eq, Bool.not_eq_false', Bool.and_eq_false_imp] at hb5
                  try simp only [nth_gi, nth_row] at hb5
                  refine r_exit ?_
                  refine k_seq_exit ?_
                  refine k_round_exit ?_
                  refine k_block_exit ?_
                  refine k_block ?_
                  refine k_seq ?_
                  refine q_region hG ?_ ?_ -- R27
                  · first | trivial | omega | (simp; done) | (simp; omega)
                  show ∃ z, _
                  simp only [ml0, ml1, Nat.reduceLT, Nat.reduceEqDiff, Nat.reduceAdd, Nat.reduceMul, Nat.reduceSub, Nat.reduceLeDiff, Nat.reduceBEq, Nat.reduceBNe, reduceIte, reduceDIte, reduceCtorEq]
                  have hf := grd_next g1 hx
                  have hll : (l ++ [x]).length = l.length + 1 := by simp
                  exact ⟨l ++ [x], by rw [wi (by omega) (by omega), hll]; simp, by rw [List.take_of_length_le (by omega), degL_step q2 (grd_ord q2 g1) hx], rfl, hf, by omega, by omega⟩
          · intro hb3
            try simp only [decide_eq_true_eq, decide_eq_false_iff_not, beq_eq_false_iff_ne, bne_eq_false_iff_eq, Bool.not_eq_false', Bool.and_eq_false_imp] at hb3
            try simp only [nth_gi, nth_row] at hb3
            refine r_exit ?_
            refine k_seq_exit ?_
            refine k_round_exit ?_
            refine k_block_exit ?_
            refine k_seq ?_
            refine r_seq ?_
            refine q_region hG ?_ ?_ -- R28
            · first | trivial | omega | (simp; done) | (simp; omega)
            refine k_seq ?_
            refine r_ret ?_
            refine ⟨[], ?_⟩
            simp only [hT, tab18, mr0, mr1, mr2, isNilP, Nat.reduceLT, Nat.reduceEqDiff, Nat.reduceAdd, Nat.reduceMul, Nat.reduceSub, Nat.reduceLeDiff, Nat.reduceBEq, Nat.reduceBNe, reduceIte, reduceDIte, reduceCtorEq]
            obtain ⟨f1, f2⟩ := ord_done g1 (by omega)
            rw [if_pos hb0, if_pos hb0, f1, f2]
            exact ⟨rfl, rfl⟩

end Go.Proofs.YtcopdikdkkdlfaaDoor
end

section
/- The functions of the package graph, one after the other: each meets its contract. -/
set_option linter.unusedSimpArgs false
set_option linter.unusedVariables false
set_option maxRecDepth 100000
namespace Go.Proofs.YtcopdikdkkdlfaaDoor
open Go Go.Cm Go.Cm.Gr Go.Proofs

def tab44 (B : Base) : Tab := { types := [(3, (.int .i64)), (36, (.slice (.int .i64)))], elems := [], cons := [], hint := [], N := 19, base := B }
theorem good44 {B : Base} (hB : Tabs B) : MGood Tryd.prog (tab44 B) := ⟨⟨types_cons ty3 (types_cons ty36 (types_nil)), elems_nil, by simp only [tab44, ioB]; omega⟩, cons_nil rfl, by kernel_rfl⟩
def cIdx : Con := fun l os => match l, os with
  | [.z (.slice (.int .i64)) s, .z (.int .i64) v], [] => some (s.length ≤ 1000000, [.z (.int .i64) (idxI s v)], [])
  | _, _ => none

theorem valid44 {B : Base} (hB : Tabs B) : Valid B Tryd.prog 44 cIdx := by
  refine valid_of_J (T := tab44 B) (good44 hB).tab Tryd.func44 rfl rfl rfl ?_
  intro args os C rs os' hc hC
  unfold cIdx at hc
  split at hc
  case h_2 => cases hc
  rename_i s v
  cases hc
  refine ⟨by simp only [List.length_cons, List.length_nil, tab44]; omega, rfl, ?_⟩
  intro X hP hT hr
  have hG : MGood X.P X.T := by rw [hP, hT]; exact good44 hB
  unfold tab44 at hT
  have hX := Bool.not_true
  simp only [Tryd.f44, argEnv, ioList, ioB]
  refine r_seq ?_
  refine q_region hG ?_ ?_ -- R0
  · first | trivial | omega | (simp; done) | (simp; omega)
  refine k_seq ?_
  refine r_seq ?_
  refine r_seq ?_
  refine q_region hG ?_ ?_ -- R1
  · first | trivial | omega | (simp; done) | (simp; omega)
  refine k_seq ?_
  refine j_block ?_
  refine j_loop (fun (z : Nat) => (⟨[(0, .l (.z (.slice (.int .i64)) s)), (1, .l (.z (.int .i64) v)), (6, .l (.z (.slice (.int .i64)) s)), (7, .l (.z (.int .i64) (s.length : Int))), (8, .l (.z (.int .i64) (z : Int)))], []⟩ : AState)) (fun z => z ≤ s.length ∧ ∀ i, i < z → gi s i ≠ v) (fun z => s.length - z) 0 ?_ ?_ ?_
  · simp only [ml0, ml1, Nat.reduceLT, Nat.reduceEqDiff, Nat.reduceAdd, Nat.reduceMul, Nat.reduceSub, Nat.reduceLeDiff, Nat.reduceBEq, Nat.reduceBNe, reduceIte, reduceDIte, reduceCtorEq]
    rfl
  · exact ⟨Nat.zero_le _, fun i hi => by omega⟩
  · rintro k ⟨g1, g2⟩
    try dsimp only at g1 g2
    refine r_seq ?_
    refine q_region hG ?_ ?_ -- R2
    · first | trivial | omega | (simp; done) | (simp; omega)
    refine k_seq ?_
    refine r_seq ?_
    refine q_cond ?_ ?_
    · intro hb0
      try simp only [decide_eq_true_eq, decide_eq_false_iff_not, beq_iff_eq, bne_iff_ne, Bool.not_eq_true', Bool.and_eq_true] at hb0
      try simp only [nth_gi, nth_row] at hb0
      refine r_skip ?_
      refine k_seq ?_
      refine r_seq ?_
      refine j_block ?_
      refine r_seq ?_
      refine q_region hG ?_ ?_ -- R3
      · first | trivial | omega | (simp; done) | (simp; omega)
      refine k_seq ?_
      refine r_seq ?_
      refine q_region hG ?_ ?_ -- R4
      · try simp only [and_true, true_and]
        exact ⟨by omega, by omega⟩
      refine k_seq ?_
      refine q_cond ?_ ?_
      · intro hb1
        try simp only [decide_eq_true_eq, decide_eq_false_iff_not, beq_iff_eq, bne_iff_ne, Bool.not_eq_true', Bool.and_eq_true] at hb1
        try simp only [nth_gi, nth_row] at hb1
        refine r_seq ?_
        refine q_region hG ?_ ?_ -- R5
        · first | trivial | omega | (simp; done) | (simp; omega)
        refine k_seq ?_
        refine r_ret ?_
        refine k_block_ret ?_
        refine k_seq_ret ?_
        refine k_round_ret ?_
        refine k_block_ret ?_
        refine k_seq_ret ?_
        refine ⟨[], ?_⟩
        simp only [hT, tab44, mr0, mr1, mr2, isNilP, Nat.reduceLT, Nat.reduceEqDiff, Nat.reduceAdd, Nat.reduceMul, Nat.reduceSub, Nat.reduceLeDiff, Nat.reduceBEq, Nat.reduceBNe, reduceIte, reduceDIte, reduceCtorEq]
        exact (idx_at (by omega) g2 (by simpa using hb1.symm)).symm
      · intro hb1
        try simp only [decide_eq_true_eq, decide_eq_false_iff_not, beq_eq_false_iff_ne, bne_eq_false_iff_eq, Bool.not_eq_false', Bool.and_eq_false_imp] at hb1
        try simp only [nth_gi, nth_row] at hb1
        refine r_skip ?_
        refine k_block ?_
        refine k_seq ?_
        refine q_region hG ?_ ?_ -- R6
        · first | trivial | omega | (simp; done) | (simp; omega)
        show ∃ z, _
        simp only [ml0, ml1, Nat.reduceLT, Nat.reduceEqDiff, Nat.reduceAdd, Nat.reduceMul, Nat.reduceSub, Nat.reduceLeDiff, Nat.reduceBEq, Nat.reduceBNe, reduceIte, reduceDIte, reduceCtorEq]
        exact ⟨k + 1, by rw [wi (by omega) (by omega)]; simp, by omega, fun i hi => by rcases Nat.lt_succ_iff_lt_or_eq.1 hi with h | h; exact g2 i h; subst h; exact fun e => hb1 e.symm, by omega⟩
    · intro hb0
      try simp only [decide_eq_true_eq, decide_eq_false_iff_not, beq_eq_false_iff_ne, bne_eq_false_iff_eq, Bool.not_eq_false', Bool.and_eq_false_imp] at hb0
      try simp only [nth_gi, nth_row] at hb0
      refine r_exit ?_
      refine k_seq_exit ?_
      refine k_round_exit ?_
      refine k_block_exit ?_
      refine k_seq ?_
      refine r_seq ?_
      refine q_region hG ?_ ?_ -- R7
      · first | trivial | omega | (simp; done) | (simp; omega)
      refine k_seq ?_
      refine r_ret ?_
      refine ⟨[], ?_⟩
      simp only [hT, tab44, mr0, mr1, mr2, isNilP, Nat.reduceLT, Nat.reduceEqDiff, Nat.reduceAdd, Nat.reduceMul, Nat.reduceSub, Nat.reduceLeDiff, Nat.reduceBEq, Nat.reduceBNe, reduceIte, reduceDIte, reduceCtorEq]
      exact (idx_no fun i hi => g2 i (by omega)).symm

def tab45 (B : Base) : Tab := { types := [(3, (.int .i64)), (30, (.int .u64)), (37, (.slice (.int .u64)))], elems := [], cons := [], hint := [], N := 19, base := B }
theorem good45 {B : Base} (hB : Tabs B) : MGood Tryd.prog (tab45 B) := ⟨⟨types_cons ty3 (types_cons ty30 (types_cons ty37 (types_nil))), elems_nil, by simp only [tab45, ioB]; omega⟩, cons_nil rfl, by kernel_rfl⟩
def cIdxU : Con := fun l os => match l, os with
  | [.z (.slice (.int .u64)) s, .z (.int .u64) v], [] => some (s.length ≤ 1000000, [.z (.int .i64) (idxI s v)], [])
  | _, _ => none

theorem valid45 {B : Base} (hB : Tabs B) : Valid B Tryd.prog 45 cIdxU := by
  refine valid_of_J (T := tab45 B) (good45 hB).tab Tryd.func45 rfl rfl rfl ?_
  intro args os C rs os' hc hC
  unfold cIdxU at hc
  split at hc
  case h_2 => cases hc
  rename_i s v
  cases hc
  refine ⟨by simp only [List.length_cons, List.length_nil, tab45]; omega, rfl, ?_⟩
  intro X hP hT hr
  have hG : MGood X.P X.T := by rw [hP, hT]; exact good45 hB
  unfold tab45 at hT
  have hX := Bool.not_true
  simp only [Tryd.f45, argEnv, ioList, ioB]
  refine r_seq ?_
  refine q_region hG ?_ ?_ -- R0
  · first | trivial | omega | (simp; done) | (simp; omega)
  refine k_seq ?_
  refine r_seq ?_
  refine r_seq ?_
  refine q_region hG ?_ ?_ -- R1
  · first | trivial | omega | (simp; done) | (simp; omega)
  refine k_seq ?_
  refine j_block ?_
  refine j_loop (fun (z : Nat) => (⟨[(0, .l (.z (.slice (.int .u64)) s)), (1, .l (.z (.int .u64) v)), (6, .l (.z (.slice (.int .u64)) s)), (7, .l (.z (.int .i64) (s.length : Int))), (8, .l (.z (.int .i64) (z : Int)))], []⟩ : AState)) (fun z => z ≤ s.length ∧ ∀ i, i < z → gi s i ≠ v) (fun z => s.length - z) 0 ?_ ?_ ?_
  · simp only [ml0, ml1, Nat.reduceLT, Nat.reduceEqDiff, Nat.reduceAdd, Nat.reduceMul, Nat.reduceSub, Nat.reduceLeDiff, Nat.reduceBEq, Nat.reduceBNe, reduceIte, reduceDIte, reduceCtorEq]
    rfl
  · exact ⟨Nat.zero_le _, fun i hi => by omega⟩
  · rintro k ⟨g1, g2⟩
    try dsimp only at g1 g2
    refine r_seq ?_
    refine q_region hG ?_ ?_ -- R2
    · first | trivial | omega | (simp; done) | (simp; omega)
    refine k_seq ?_
    refine r_seq ?_
    refine q_cond ?_ ?_
    · intro hb0
      try simp only [decide_eq_true_eq, decide_eq_false_iff_not, beq_iff_eq, bne_iff_ne, Bool.not_eq_true', Bool.and_eq_true] at hb0
      try simp only [nth_gi, nth_row] at hb0
      refine r_skip ?_
      refine k_seq ?_
      refine r_seq ?_
      refine j_block ?_
      refine r_seq ?_
      refine q_region hG ?_ ?_ -- R3
      · first | trivial | omega | (simp; done) | (simp; omega)
      refine k_seq ?_
      refine r_seq ?_
      refine q_region hG ?_ ?_ -- R4
      · try simp only [and_true, true_and]
        exact ⟨by omega, by omega⟩
      refine k_seq ?_
      refine q_cond ?_ ?_
      · intro hb1
        try simp only [decide_eq_true_eq, decide_eq_false_iff_not, beq_iff_eq, bne_iff_ne, Bool.not_eq_true', Bool.and_eq_true] at hb1
        try simp only [nth_gi, nth_row] at hb1
        refine r_seq ?_
        refine q_region hG ?_ ?_ -- R5
        · first | trivial | omega | (simp; done) | (simp; omega)
        refine k_seq ?_
        refine r_ret ?_
        refine k_block_ret ?_
        refine k_seq_ret ?_
        refine k_round_ret ?_
        refine k_block_ret ?_
        refine k_seq_ret ?_
        refine ⟨[], ?_⟩
        simp only [hT, tab45, mr0, mr1, mr2, isNilP, Nat.reduceLT, Nat.reduceEqDiff, Nat.reduceAdd, Nat.reduceMul, Nat.reduceSub, Nat.reduceLeDiff, Nat.reduceBEq, Nat.reduceBNe, reduceIte, reduceDIte, reduceCtorEq]
        exact (idx_at (by omega) g2 (by simpa using hb1.symm)).symm
      · intro hb1
        try simp only [decide_eq_true_eq, decide_eq_false_iff_not, beq_eq_false_iff_ne, bne_eq_false_iff_eq, Bool.not_eq_false', Bool.and_eq_false_imp] at hb1
        try simp only [nth_gi, nth_row] at hb1
        refine r_skip ?_
        refine k_block ?_
        refine k_seq ?_
        refine q_region hG ?_ ?_ -- R6
        · first | trivial | omega | (simp; done) | (simp; omega)
        show ∃ z, _
        simp only [ml0, ml1, Nat.reduceLT, Nat.reduceEqDiff, Nat.reduceAdd, Nat.reduceMul, Nat.reduceSub, Nat.reduceLeDiff, Nat.reduceBEq, Nat.reduceBNe, reduceIte, reduceDIte, reduceCtorEq]
        exact ⟨k + 1, by rw [wi (by omega) (by omega)]; simp, by omega, fun i hi => by rcases Nat.lt_succ_iff_lt_or_eq.1 hi with h | h; exact g2 i h; subst h; exact fun e => hb1 e.symm, by omega⟩
    · intro hb0
      try simp only [decide_eq_true_eq, decide_eq_false_iff_not, beq_eq_false_iff_ne, bne_eq_false_iff_eq, Bool.not_eq_false', Bool.and_eq_false_imp] at hb0
      try simp only [nth_gi, nth_row] at hb0
      refine r_exit ?_
      refine k_seq_exit ?_
      refine k_round_exit ?_
      refine k_block_exit ?_
      refine k_seq ?_
      refine r_seq ?_
      refine q_region hG ?_ ?_ -- R7
      · first | trivial | omega | (simp; done) | (simp; omega)
      refine k_seq ?_
      refine r_ret ?_
      refine ⟨[], ?_⟩
      simp only [hT, tab45, mr0, mr1, mr2, isNilP, Nat.reduceLT, Nat.reduceEqDiff, Nat.reduceAdd, Nat.reduceMul, Nat.reduceSub, Nat.reduceLeDiff, Nat.reduceBEq, Nat.reduceBNe, reduceIte, reduceDIte, reduceCtorEq]
      exact (idx_no fun i hi => g2 i (by omega)).symm

end Go.Proofs.YtcopdikdkkdlfaaDoor
end

section
/- The functions of the package graph, one after the other: each meets its contract. -/
set_option linter.unusedSimpArgs false
set_option linter.unusedVariables false
set_option maxRecDepth 100000
namespace Go.Proofs.YtcopdikdkkdlfaaDoor
open Go Go.Cm Go.Cm.Gr Go.Proofs

def tab21 (B : Base) : Tab := { types := [(3, (.int .i64)), (36, (.slice (.int .i64)))], elems := [], cons := [(44, cIdx)], hint := [], N := 9, base := B }
theorem good21 {B : Base} (hB : Tabs B) : MGood Tryd.prog (tab21 B) := ⟨⟨types_cons ty3 (types_cons ty36 (types_nil)), elems_nil, by simp only [tab21, ioB]; omega⟩, cons_ok (cals_cons (cal_ok Tryd.func44 (by kernel_rfl) rfl (valid44 hB)) (cals_nil)), by kernel_rfl⟩
def cHas : Con := fun l os => match l, os with
  | [.z (.slice (.int .i64)) s, .z (.int .i64) v], [] => some (s.length ≤ 1000000, [.z .bool (s.contains v)], [])
  | _, _ => none

theorem valid21 {B : Base} (hB : Tabs B) : Valid B Tryd.prog 21 cHas := by
  refine valid_of_J (T := tab21 B) (good21 hB).tab Tryd.func21 rfl rfl rfl ?_
  intro args os C rs os' hc hC
  unfold cHas at hc
  split at hc
  case h_2 => cases hc
  rename_i s v
  cases hc
  refine ⟨by simp only [List.length_cons, List.length_nil, tab21]; omega, rfl, ?_⟩
  intro X hP hT hr
  have hG : MGood X.P X.T := by rw [hP, hT]; exact good21 hB
  unfold tab21 at hT
  have hX := @cIdx.eq_1
  simp only [Tryd.f21, argEnv, ioList, ioB]
  refine r_seq ?_
  refine q_region hG ?_ ?_ -- R0
  · first | trivial | omega | (simp; done) | (simp; omega)
  refine k_seq ?_
  refine r_seq ?_
  refine q_region hG ?_ ?_ -- R1
  · try simp only [and_true, true_and]
    exact hC
  refine k_seq ?_
  refine r_ret ?_
  refine ⟨[], ?_⟩
  simp only [hT, tab21, mr0, mr1, mr2, isNilP, Nat.reduceLT, Nat.reduceEqDiff, Nat.reduceAdd, Nat.reduceMul, Nat.reduceSub, Nat.reduceLeDiff, Nat.reduceBEq, Nat.reduceBNe, reduceIte, reduceDIte, reduceCtorEq]
  exact idx_mem

def tab23 (B : Base) : Tab := { types := [(3, (.int .i64)), (30, (.int .u64)), (37, (.slice (.int .u64)))], elems := [], cons := [(45, cIdxU)], hint := [], N := 9, base := B }
theorem good23 {B : Base} (hB : Tabs B) : MGood Tryd.prog (tab23 B) := ⟨⟨types_cons ty3 (types_cons ty30 (types_cons ty37 (types_nil))), elems_nil, by simp only [tab23, ioB]; omega⟩, cons_ok (cals_cons (cal_ok Tryd.func45 (by kernel_rfl) rfl (valid45 hB)) (cals_nil)), by kernel_rfl⟩
def cHasU : Con := fun l os => match l, os with
  | [.z (.slice (.int .u64)) s, .z (.int .u64) v], [] => some (s.length ≤ 1000000, [.z .bool (s.contains v)], [])
  | _, _ => none

theorem valid23 {B : Base} (hB : Tabs B) : Valid B Tryd.prog 23 cHasU := by
  refine valid_of_J (T := tab23 B) (good23 hB).tab Tryd.func23 rfl rfl rfl ?_
  intro args os C rs os' hc hC
  unfold cHasU at hc
  split at hc
  case h_2 => cases hc
  rename_i s v
  cases hc
  refine ⟨by simp only [List.length_cons, List.length_nil, tab23]; omega, rfl, ?_⟩
  intro X hP hT hr
  have hG : MGood X.P X.T := by rw [hP, hT]; exact good23 hB
  unfold tab23 at hT
  have hX := @cIdxU.eq_1
  simp only [Tryd.f23, argEnv, ioList, ioB]
  refine r_seq ?_
  refine q_region hG ?_ ?_ -- R0
  · first | trivial | omega | (simp; done) | (simp; omega)
  refine k_seq ?_
  refine r_seq ?_
  refine q_region hG ?_ ?_ -- R1
  · try simp only [and_true, true_and]
    exact hC
  refine k_seq ?_
  refine r_ret ?_
  refine ⟨[], ?_⟩
  simp only [hT, tab23, mr0, mr1, mr2, isNilP, Nat.reduceLT, Nat.reduceEqDiff, Nat.reduceAdd, Nat.reduceMul, Nat.reduceSub, Nat.reduceLeDiff, Nat.reduceBEq, Nat.reduceBNe, reduceIte, reduceDIte, reduceCtorEq]
  exact idx_mem

def tab29 (B : Base) : Tab := { types := [(3, (.int .i64)), (36, (.slice (.int .i64)))], elems := [], cons := [], hint := [], N := 26, base := B }
theorem good29 {B : Base} (hB : Tabs B) : MGood Tryd.prog (tab29 B) := ⟨⟨types_cons ty3 (types_cons ty36 (types_nil)), elems_nil, by simp only [tab29, ioB]; omega⟩, cons_nil rfl, by kernel_rfl⟩
def cEq : Con := fun l os => match l, os with
  | [.z (.slice (.int .i64)) s, .z (.slice (.int .i64)) t], [] => some (s.length ≤ 1000000 ∧ t.length ≤ 1000000, [.z .bool (decide (s = t))], [])
  | _, _ => none

theorem valid29 {B : Base} (hB : Tabs B) : Valid B Tryd.prog 29 cEq := by
  refine valid_of_J (T := tab29 B) (good29 hB).tab Tryd.func29 rfl rfl rfl ?_
  intro args os C rs os' hc hC
  unfold cEq at hc
  split at hc
  case h_2 => cases hc
  rename_i s t
  cases hc
  refine ⟨by simp only [List.length_cons, List.length_nil, tab29]; omega, rfl, ?_⟩
  intro X hP hT hr
  have hG : MGood X.P X.T := by rw [hP, hT]; exact good29 hB
  unfold tab29 at hT
  have hX := Bool.not_true
  simp only [Tryd.f29, argEnv, ioList, ioB]
  refine r_seq ?_
  refine q_region hG ?_ ?_ -- R0
  · first | trivial | omega | (simp; done) | (simp; omega)
  refine k_seq ?_
  refine r_seq ?_
  refine r_seq ?_
  refine q_region hG ?_ ?_ -- R1
  · first | trivial | omega | (simp; done) | (simp; omega)
  refine k_seq ?_
  refine q_cond ?_ ?_
  · intro hb0
    try simp only [decide_eq_true_eq, decide_eq_false_iff_not, beq_iff_eq, bne_iff_ne, Bool.not_eq_true', Bool.and_eq_true] at hb0
    try simp only [nth_gi, nth_row] at hb0
    refine r_seq ?_
    refine q_region hG ?_ ?_ -- R2
    · first | trivial | omega | (simp; done) | (simp; omega)
    refine k_seq ?_
    refine r_ret ?_
    refine k_seq_ret ?_
    refine ⟨[], ?_⟩
    simp only [hT, tab29, mr0, mr1, mr2, isNilP, Nat.reduceLT, Nat.reduceEqDiff, Nat.reduceAdd, Nat.reduceMul, Nat.reduceSub, Nat.reduceLeDiff, Nat.reduceBEq, Nat.reduceBNe, reduceIte, reduceDIte, reduceCtorEq]
    rw [decide_eq_false (fun e => hb0 (by rw [e]))]
  · intro hb0
    try simp only [decide_eq_true_eq, decide_eq_false_iff_not, beq_eq_false_iff_ne, bne_eq_false_iff_eq, Bool.not_eq_false', Bool.and_eq_false_imp] at hb0
    try simp only [nth_gi, nth_row] at hb0
    have hl : s.length = t.length := by omega
    refine r_skip ?_
    refine k_seq ?_
    refine r_seq ?_
    refine r_seq ?_
    refine q_region hG ?_ ?_ -- R3
    · first | trivial | omega | (simp; done) | (simp; omega)
    refine k_seq ?_
    refine j_block ?_
    refine j_loop (fun (z : Nat) => (⟨[(0, .l (.z (.slice (.int .i64)) s)), (1, .l (.z (.slice (.int .i64)) t)), (11, .l (.z (.slice (.int .i64)) s)), (12, .l (.z (.int .i64) (s.length : Int))), (13, .l (.z (.int .i64) (z : Int)))], []⟩ : AState)) (fun z => z ≤ s.length ∧ ∀ i, i < z → gi s i = gi t i) (fun z => s.length - z) 0 ?_ ?_ ?_
    · simp only [ml0, ml1, Nat.reduceLT, Nat.reduceEqDiff, Nat.reduceAdd, Nat.reduceMul, Nat.reduceSub, Nat.reduceLeDiff, Nat.reduceBEq, Nat.reduceBNe, reduceIte, reduceDIte, reduceCtorEq]
      rfl
    · exact ⟨Nat.zero_le _, fun i hi => by omega⟩
    · rintro k ⟨g1, g2⟩
      try dsimp only at g1 g2
      refine r_seq ?_
      refine q_region hG ?_ ?_ -- R4
      · first | trivial | omega | (simp; done) | (simp; omega)
      refine k_seq ?_
      refine r_seq ?_
      refine q_cond ?_ ?_
      · intro hb1
        try simp only [decide_eq_true_eq, decide_eq_false_iff_not, beq_iff_eq, bne_iff_ne, Bool.not_eq_true', Bool.and_eq_true] at hb1
        try simp only [nth_gi, nth_row] at hb1
        refine r_skip ?_
        refine k_seq ?_
        refine r_seq ?_
        refine j_block ?_
        refine r_seq ?_
        refine q_region hG ?_ ?_ -- R5
        · first | trivial | omega | (simp; done) | (simp; omega)
        refine k_seq ?_
        refine r_seq ?_
        refine q_draw hG ?_ ?_ -- R6
        · try simp only [and_true, true_and]
          omega
        refine k_seq ?_
        refine q_cond ?_ ?_
        · intro hb2
          try simp only [decide_eq_true_eq, decide_eq_false_iff_not, beq_iff_eq, bne_iff_ne, Bool.not_eq_true', Bool.and_eq_true] at hb2
          try simp only [nth_gi, nth_row] at hb2
          refine r_seq ?_
          refine q_region hG ?_ ?_ -- R7
          · first | trivial | omega | (simp; done) | (simp; omega)
          refine k_seq ?_
          refine r_ret ?_
          refine k_block_ret ?_
          refine k_seq_ret ?_
          refine k_round_ret ?_
          refine k_block_ret ?_
          refine k_seq_ret ?_
          refine ⟨[], ?_⟩
          simp only [hT, tab29, mr0, mr1, mr2, isNilP, Nat.reduceLT, Nat.reduceEqDiff, Nat.reduceAdd, Nat.reduceMul, Nat.reduceSub, Nat.reduceLeDiff, Nat.reduceBEq, Nat.reduceBNe, reduceIte, reduceDIte, reduceCtorEq]
          rw [decide_eq_false (list_ne hb2)]
        · intro hb2
          try simp only [decide_eq_true_eq, decide_eq_false_iff_not, beq_eq_false_iff_ne, bne_eq_false_iff_eq, Bool.not_eq_false', Bool.and_eq_false_imp] at hb2
          try simp only [nth_gi, nth_row] at hb2
          refine r_skip ?_
          refine k_block ?_
          refine k_seq ?_
          refine q_region hG ?_ ?_ -- R8
          · first | trivial | omega | (simp; done) | (simp; omega)
          show ∃ z, _
          simp only [ml0, ml1, Nat.reduceLT, Nat.reduceEqDiff, Nat.reduceAdd, Nat.reduceMul, Nat.reduceSub, Nat.reduceLeDiff, Nat.reduceBEq, Nat.reduceBNe, reduceIte, reduceDIte, reduceCtorEq]
          exact ⟨k + 1, by rw [wi (by omega) (by omega)]; simp, by omega, fun i hi => by rcases Nat.lt_succ_iff_lt_or_eq.1 hi with h | h; exact g2 i h; subst h; exact hb2, by omega⟩
      · intro hb1
        try simp only [decide_eq_true_eq, decide_eq_false_iff_not, beq_eq_false_iff_ne, bne_eq_false_iff_eq, Bool.not_eq_false', Bool.and_eq_false_imp] at hb1
        try simp only [nth_gi, nth_row] at hb1
        refine r_exit ?_
        refine k_seq_exit ?_
        refine k_round_exit ?_
        refine k_block_exit ?_
        refine k_seq ?_
        refine r_seq ?_
        refine q_region hG ?_ ?_ -- R9
        · first | trivial | omega | (simp; done) | (simp; omega)
        refine k_seq ?_
        refine r_ret ?_
        refine ⟨[], ?_⟩
        simp only [hT, tab29, mr0, mr1, mr2, isNilP, Nat.reduceLT, Nat.reduceEqDiff, Nat.reduceAdd, Nat.reduceMul, Nat.reduceSub, Nat.reduceLeDiff, Nat.reduceBEq, Nat.reduceBNe, reduceIte, reduceDIte, reduceCtorEq]
        rw [decide_eq_true (list_eq hl (fun i hi => g2 i (by omega)))]

def tab19 (B : Base) : Tab := { types := [(3, (.int .i64)), (30, (.int .u64)), (37, (.slice (.int .u64)))], elems := [], cons := [], hint := [], N := 26, base := B }
theorem good19 {B : Base} (hB : Tabs B) : MGood Tryd.prog (tab19 B) := ⟨⟨types_cons ty3 (types_cons ty30 (types_cons ty37 (types_nil))), elems_nil, by simp only [tab19, ioB]; omega⟩, cons_nil rfl, by kernel_rfl⟩
def cEqU : Con := fun l os => match l, os with
  | [.z (.slice (.int .u64)) s, .z (.slice (.int .u64)) t], [] => some (s.length ≤ 1000000 ∧ t.length ≤ 1000000, [.z .bool (decide (s = t))], [])
  | _, _ => none

theorem valid19 {B : Base} (hB : Tabs B) : Valid B Tryd.prog 19 cEqU := by
  refine valid_of_J (T := tab19 B) (good19 hB).tab Tryd.func19 rfl rfl rfl ?_
  intro args os C rs os' hc hC
  unfold cEqU at hc
  split at hc
  case h_2 => cases hc
  rename_i s t
  cases hc
  refine ⟨by simp only [List.length_cons, List.length_nil, tab19]; omega, rfl, ?_⟩
  intro X hP hT hr
  have hG : MGood X.P X.T := by rw [hP, hT]; exact good19 hB
  unfold tab19 at hT
  have hX := Bool.not_true
  simp only [Tryd.f19, argEnv, ioList, ioB]
  refine r_seq ?_
  refine q_region hG ?_ ?_ -- R0
  · first | trivial | omega | (simp; done) | (simp; omega)
  refine k_seq ?_
  refine r_seq ?_
  refine r_seq ?_
  refine q_region hG ?_ ?_ -- R1
  · first | trivial | omega | (simp; done) | (simp; omega)
  refine k_seq ?_
  refine q_cond ?_ ?_
  · intro hb0
    try simp only [decide_eq_true_eq, decide_eq_false_iff_not, beq_iff_eq, bne_iff_ne, Bool.not_eq_true', Bool.and_eq_true] at hb0
    try simp only [nth_gi, nth_row] at hb0
    refine r_seq ?_
    refine q_region hG ?_ ?_ -- R2
    · first | trivial | omega | (simp; done) | (simp; omega)
    refine k_seq ?_
    refine r_ret ?_
    refine k_seq_ret ?_
    refine ⟨[], ?_⟩
    simp only [hT, tab19, mr0, mr1, mr2, isNilP, Nat.reduceLT, Nat.reduceEqDiff, Nat.reduceAdd, Nat.reduceMul, Nat.reduceSub, Nat.reduceLeDiff, Nat.reduceBEq, Nat.reduceBNe, reduceIte, reduceDIte, reduceCtorEq]
    rw [decide_eq_false (fun e => hb0 (by rw [e]))]
  · intro hb0
    try simp only [decide_eq_true_eq, decide_eq_false_iff_not, beq_eq_false_iff_ne, bne_eq_false_iff_eq, Bool.not_eq_false', Bool.and_eq_false_imp] at hb0
    try simp only [nth_gi, nth_row] at hb0
    have hl : s.length = t.length := by omega
    refine r_skip ?_
    refine k_seq ?_
    refine r_seq ?_
    refine r_seq ?_
    refine q_region hG ?_ ?_ -- R3
    · first | trivial | omega | (simp; done) | (simp; omega)
    refine k_seq ?_
    refine j_block ?_
    refine j_loop (fun (z : Nat) => (⟨[(0, .l (.z (.slice (.int .u64)) s)), (1, .l (.z (.slice (.int .u64)) t)), (11, .l (.z (.slice (.int .u64)) s)), (12, .l (.z (.int .i64) (s.length : Int))), (13, .l (.z (.int .i64) (z : Int)))], []⟩ : AState)) (fun z => z ≤ s.length ∧ ∀ i, i < z → gi s i = gi t i) (fun z => s.length - z) 0 ?_ ?_ ?_
    · simp only [ml0, ml1, Nat.reduceLT, Nat.reduceEqDiff, Nat.reduceAdd, Nat.reduceMul, Nat.reduceSub, Nat.reduceLeDiff, Nat.reduceBEq, Nat.reduceBNe, reduceIte, reduceDIte, reduceCtorEq]
      rfl
    · exact ⟨Nat.zero_le _, fun i hi => by omega⟩
    · rintro k ⟨g1, g2⟩
      try dsimp only at g1 g2
      refine r_seq ?_
      refine q_region hG ?_ ?_ -- R4
      · first | trivial | omega | (simp; done) | (simp; omega)
      refine k_seq ?_
      refine r_seq ?_
      refine q_cond ?_ ?_
      · intro hb1
        try simp only [decide_eq_true_eq, decide_eq_false_iff_not, beq_iff_eq, bne_iff_ne, Bool.not_eq_true', Bool.and_eq_true] at hb1
        try simp only [nth_gi, nth_row] at hb1
        refine r_skip ?_
        refine k_seq ?_
        refine r_seq ?_
        refine j_block ?_
        refine r_seq ?_
        refine q_region hG ?_ ?_ -- R5
        · first | trivial | omega | (simp; done) | (simp; omega)
        refine k_seq ?_
        refine r_seq ?_
        refine q_draw hG ?_ ?_ -- R6
        · try simp only [and_true, true_and]
          omega
        refine k_seq ?_
        refine q_cond ?_ ?_
        · intro hb2
          try simp only [decide_eq_true_eq, decide_eq_false_iff_not, beq_iff_eq, bne_iff_ne, Bool.not_eq_true', Bool.and_eq_true] at hb2
          try simp only [nth_gi, nth_row] at hb2
          refine r_seq ?_
          refine q_region hG ?_ ?_ -- R7
          · first | trivial | omega | (simp; done) | (simp; omega)
          refine k_seq ?_
          refine r_ret ?_
          refine k_block_ret ?_
          refine k_seq_ret ?_
          refine k_round_ret ?_
          refine k_block_ret ?_
          refine k_seq_ret ?_
          refine ⟨[], ?_⟩
          simp only [hT, tab19, mr0, mr1, mr2, isNilP, Nat.reduceLT, Nat.reduceEqDiff, Nat.reduceAdd, Nat.reduceMul, Nat.reduceSub, Nat.reduceLeDiff, Nat.reduceBEq, Nat.reduceBNe, reduceIte, reduceDIte, reduceCtorEq]
          rw [decide_eq_false (list_ne hb2)]
        · intro hb2
          try simp only [decide_eq_true_eq, decide_eq_false_iff_not, beq_eq_false_iff_ne, bne_eq_false_iff_eq, Bool.not_eq_false', Bool.and_eq_false_imp] at hb2
          try simp only [nth_gi, nth_row] at hb2
          refine r_skip ?_
          refine k_block ?_
          refine k_seq ?_
          refine q_region hG ?_ ?_ -- R8
          · first | trivial | omega | (simp; done) | (simp; omega)
          show ∃ z, _
          simp only [ml0, ml1, Nat.reduceLT, Nat.reduceEqDiff, Nat.reduceAdd, Nat.reduceMul, Nat.reduceSub, Nat.reduceLeDiff, Nat.reduceBEq, Nat.reduceBNe, reduceIte, reduceDIte, reduceCtorEq]
          exact ⟨k + 1, by rw [wi (by omega) (by omega)]; simp, by omega, fun i hi => by rcases Nat.lt_succ_iff_lt_or_eq.1 hi with h | h; exact g2 i h; subst h; exact hb2, by omega⟩
      · intro hb1
        try simp only [decide_eq_true_eq, decide_eq_false_iff_not, beq_eq_false_iff_ne, bne_eq_false_iff_eq, Bool.not_eq_false', Bool.and_eq_false_imp] at hb1
        try simp only [nth_gi, nth_row] at hb1
        refine r_exit ?_
        refine k_seq_exit ?_
        refine k_round_exit ?_
        refine k_block_exit ?_
        refine k_seq ?_
        refine r_seq ?_
        refine q_region hG ?_ ?_ -- R9
        · first | trivial | omega | (simp; done) | (simp; omega)
        refine k_seq ?_
        refine r_ret ?_
        refine ⟨[], ?_⟩
        simp only [hT, tab19, mr0, mr1, mr2, isNilP, Nat.reduceLT, Nat.reduceEqDiff, Nat.reduceAdd, Nat.reduceMul, Nat.reduceSub, Nat.reduceLeDiff, Nat.reduceBEq, Nat.reduceBNe, reduceIte, reduceDIte, reduceCtorEq]
        rw [decide_eq_true (list_eq hl (fun i hi => g2 i (by omega)))]

end Go.Proofs.YtcopdikdkkdlfaaDoor
end

section
/- The functions of the package graph, one after the other: each meets its contract. -/
set_option linter.unusedSimpArgs false
set_option linter.unusedVariables false
set_option maxRecDepth 100000
namespace Go.Proofs.YtcopdikdkkdlfaaDoor
open Go Go.Cm Go.Cm.Gr Go.Proofs

def tab10 (B : Base) : Tab := { types := [(27, (.slice (.slice (.int .i64)))), (30, (.int .u64)), (32, (.int .i64)), (36, (.slice (.int .i64))), (37, (.slice (.int .u64)))], elems := [(27, 36), (36, 3), (37, 30)], cons := [(13, cBack), (14, cReach), (15, cParts), (16, cBottom), (17, cFar), (18, cOrder), (19, cEqU), (20, cCheckN), (29, cEq)], hint := [], N := 175, base := B }
theorem good10 {B : Base} (hB : Tabs B) : MGood Tryd.prog (tab10 B) := ⟨⟨types_cons ty27 (types_cons ty30 (types_cons ty32 (types_cons ty36 (types_cons ty37 (types_nil))))), elems_cons (by kernel_rfl) (elems_cons (by kernel_rfl) (elems_cons (by kernel_rfl) (elems_nil))), by simp only [tab10, ioB]; omega⟩, cons_ok (cals_cons (cal_ok Tryd.func13 (by kernel_rfl) rfl (valid13 hB)) (cals_cons (cal_ok Tryd.func14 (by kernel_rfl) rfl (valid14 hB)) (cals_cons (cal_ok Tryd.func15 (by kernel_rfl) rfl (valid15 hB)) (cals_cons (cal_ok Tryd.func16 (by kernel_rfl) rfl (valid16 hB)) (cals_cons (cal_ok Tryd.func17 (by kernel_rfl) rfl (valid17 hB)) (cals_cons (cal_ok Tryd.func18 (by kernel_rfl) rfl (valid18 hB)) (cals_cons (cal_ok Tryd.func19 (by kernel_rfl) rfl (valid19 hB)) (cals_cons (cal_ok Tryd.func20 (by kernel_rfl) rfl (valid20n hB)) (cals_cons (cal_ok Tryd.func29 (by kernel_rfl) rfl (valid29 hB)) (cals_nil)))))))))), by kernel_rfl⟩
def cWorks : Con := fun l os => match l, os with
  | [], [] => some (True, [.z .bool true], [])
  | _, _ => none

set_option maxHeartbeats 2000000 in
theorem valid10 {B : Base} (hB : Tabs B) : Valid B Tryd.prog 10 cWorks := by
  refine valid_of_J (T := tab10 B) (good10 hB).tab Tryd.func10 rfl rfl rfl ?_
  intro args os C rs os' hc hC
  unfold cWorks at hc
  split at hc
  case h_2 => cases hc
  cases hc
  refine ⟨by simp only [List.length_cons, List.length_nil, tab10]; omega, rfl, ?_⟩
  intro X hP hT hr
  have hG : MGood X.P X.T := by rw [hP, hT]; exact good10 hB
  unfold tab10 at hT
  have hX := And.intro (@cBack.eq_1) <| And.intro (@cBottom.eq_1) <| And.intro (@cCheck.eq_1) <| And.intro (@cCheckN.eq_1) <| And.intro (@cEq.eq_1) <| And.intro (@cEqU.eq_1) <| And.intro (@cFar.eq_1) <| And.intro (@cOrder.eq_1) <| And.intro (@cParts.eq_1) <| @cReach.eq_1
  simp only [Tryd.f10, argEnv, ioList, ioB]
  refine r_seq ?_
  refine q_region hG ?_ ?_ -- R0
  · first | trivial | omega | (simp; done) | (simp; omega)
  refine k_seq ?_
  refine r_seq ?_
  refine q_region hG ?_ ?_ -- R1
  · first | trivial | omega | (simp; done) | (simp; omega)
  refine k_seq ?_
  refine r_seq ?_
  refine q_region hG ?_ ?_ -- R2
  · try simp only [and_true, true_and]
    exact ⟨by decide, by decide, by decide⟩
  refine k_seq ?_
  refine r_seq ?_
  refine q_region hG ?_ ?_ -- R3
  · try simp only [and_true, true_and]
    exact ⟨by decide, by decide, by decide⟩
  refine k_seq ?_
  refine r_seq ?_
  refine q_region hG ?_ ?_ -- R4
  · try simp only [and_true, true_and]
    exact ⟨by decide, by decide, by decide⟩
  refine k_seq ?_
  refine r_seq ?_
  refine q_region hG ?_ ?_ -- R5
  · try simp only [and_true, true_and]
    exact ⟨by decide, by decide, by decide⟩
  refine k_seq ?_
  refine r_seq ?_
  refine q_region hG ?_ ?_ -- R6
  · try simp only [and_true, true_and]
    decide
  refine k_seq ?_
  refine r_seq ?_
  refine q_region hG ?_ ?_ -- R7
  · try simp only [and_true, true_and]
    decide
  refine k_seq ?_
  refine r_seq ?_
  refine q_region hG ?_ ?_ -- R8
  · try simp only [and_true, true_and]
    decide
  refine k_seq ?_
  refine r_seq ?_
  refine q_region hG ?_ ?_ -- R9
  · try simp only [and_true, true_and]
    decide
  refine k_seq ?_
  refine r_seq ?_
  refine q_region hG ?_ ?_ -- R10
  · try simp only [and_true, true_and]
    decide
  refine k_seq ?_
  refine r_seq ?_
  refine q_region hG ?_ ?_ -- R11
  · try simp only [and_true, true_and]
    exact ⟨by decide, by decide, by decide⟩
  refine k_seq ?_
  refine r_seq ?_
  refine q_region hG ?_ ?_ -- R12
  · try simp only [and_true, true_and]
    decide +kernel
  refine k_seq ?_
  refine r_seq ?_
  refine q_region hG ?_ ?_ -- R13
  · try simp only [and_true, true_and]
    decide +kernel
  refine k_seq ?_
  refine r_seq ?_
  refine q_region hG ?_ ?_ -- R14
  · try simp only [and_true, true_and]
    decide +kernel
  refine k_seq ?_
  refine r_ret ?_
  refine ⟨[], ?_⟩
  simp only [hT, tab10, mr0, mr1, mr2, isNilP, Nat.reduceLT, Nat.reduceEqDiff, Nat.reduceAdd, Nat.reduceMul, Nat.reduceSub, Nat.reduceLeDiff, Nat.reduceBEq, Nat.reduceBNe, reduceIte, reduceDIte, reduceCtorEq]
  exact (by decide +kernel : _ = true).symm

end Go.Proofs.YtcopdikdkkdlfaaDoor
end

section
/- The functions of the package at graphs that are valid. -/
namespace Go.Cm
theorem valid_less {B : Base} {P : Program} {f : FuncId} {c c' : Con} {fr : List Nat} (h : Valid B P f c fr) (hc : ∀ l os C rs os', c' l os = some (C, rs, os') → C → ∃ C2, c l os = some (C2, rs, os') ∧ C2) : Valid B P f c' fr :=
  fun args os C rs os' e hC O w vals ρ0 h1 h2 h3 h4 ha ho hap => by
    obtain ⟨C2, h5, h6⟩ := hc _ _ _ _ _ e hC
    exact h args os C2 rs os' h5 h6 O w vals ρ0 h1 h2 h3 h4 ha ho hap
namespace Gr
theorem rd_zero {g : Gph} (hv : Val g) {ss : List Int} (hs : ∀ s ∈ ss, s.toNat < 2 ^ g.length) : rdE g ss = 0 :=
  (rd_good (okG_iff.2 hv) (List.all_eq_true.2 fun s h => by simpa using hs s h)).2
theorem val_lens {g : Gph} (hv : Val g) : g.length ≤ 1000000 ∧ ∀ r ∈ g, r.length ≤ 1000000 := by
  refine ⟨by have := hv.most; omega, fun r hr => ?_⟩
  have := okRow_len (hv.rows r hr) (by have := hv.one; omega)
  have := hv.most
  omega
end Gr
end Go.Cm
namespace Go.Proofs.YtcopdikdkkdlfaaDoor
open Go Go.Cm Go.Cm.Gr Go.Proofs
abbrev SGt : Ty := .slice (.slice (.int .i64))
def cReachV : Con := fun l os => match l, os with
  | [.z (.slice (.slice (.int .i64))) g, .z (.int .u64) s], [] => some (Val g ∧ U64 s ∧ s.toNat < 2 ^ g.length, [.z (.int .u64) (reach g s.toNat : Int), .z (.int .i64) 0], [])
  | _, _ => none
theorem valid14v {B : Base} (hB : Tabs B) : Valid B Tryd.prog 14 cReachV := valid_less (valid14 hB) fun l os C rs os' e hC => by
  unfold cReachV at e
  split at e
  case h_2 => cases e
  rename_i g s
  cases e
  obtain ⟨hv, hu, hs⟩ := hC
  have h0 : rdE g [s] = 0 := rd_zero hv (fun x h => by rw [List.mem_singleton.1 h]; exact hs)
  refine ⟨List.length g ≤ 1000000 ∧ (∀ r ∈ g, List.length r ≤ 1000000) ∧ U64 s, (cReach.eq_1 g s).trans ?_, (val_lens hv).1, (val_lens hv).2, hu⟩
  rw [h0]; rfl
def cBackV : Con := fun l os => match l, os with
  | [.z (.slice (.slice (.int .i64))) g, .z (.int .u64) s], [] => some (Val g ∧ U64 s ∧ s.toNat < 2 ^ g.length, [.z (.int .u64) (back g s.toNat : Int), .z (.int .i64) 0], [])
  | _, _ => none
theorem valid13v {B : Base} (hB : Tabs B) : Valid B Tryd.prog 13 cBackV := valid_less (valid13 hB) fun l os C rs os' e hC => by
  unfold cBackV at e
  split at e
  case h_2 => cases e
  rename_i g s
  cases e
  obtain ⟨hv, hu, hs⟩ := hC
  have h0 : rdE g [s] = 0 := rd_zero hv (fun x h => by rw [List.mem_singleton.1 h]; exact hs)
  refine ⟨List.length g ≤ 1000000 ∧ (∀ r ∈ g, List.length r ≤ 1000000) ∧ U64 s, (cBack.eq_1 g s).trans ?_, (val_lens hv).1, (val_lens hv).2, hu⟩
  rw [h0]; rfl
def cFarV : Con := fun l os => match l, os with
  | [.z (.slice (.slice (.int .i64))) g, .z (.int .u64) s], [] => some (Val g ∧ U64 s ∧ s.toNat < 2 ^ g.length, [.z (.slice (.int .i64)) (far g s.toNat), .z (.int .i64) 0], [])
  | _, _ => none
theorem valid17v {B : Base} (hB : Tabs B) : Valid B Tryd.prog 17 cFarV := valid_less (valid17 hB) fun l os C rs os' e hC => by
  unfold cFarV at e
  split at e
  case h_2 => cases e
  rename_i g s
  cases e
  obtain ⟨hv, hu, hs⟩ := hC
  have h0 : rdE g [s] = 0 := rd_zero hv (fun x h => by rw [List.mem_singleton.1 h]; exact hs)
  refine ⟨List.length g ≤ 1000000 ∧ (∀ r ∈ g, List.length r ≤ 1000000) ∧ U64 s, (cFar.eq_1 g s).trans ?_, (val_lens hv).1, (val_lens hv).2, hu⟩
  rw [h0]; rfl
def cPartsV : Con := fun l os => match l, os with
  | [.z (.slice (.slice (.int .i64))) g], [] => some (Val g, [.z (.slice (.int .u64)) (partsG g), .z (.int .i64) 0], [])
  | _, _ => none
theorem rd_nil {g : Gph} (hv : Val g) : rdE g [] = 0 := rd_zero hv (fun x h => by simp at h)
theorem valid15v {B : Base} (hB : Tabs B) : Valid B Tryd.prog 15 cPartsV := valid_less (valid15 hB) fun l os C rs os' e hC => by
  unfold cPartsV at e
  split at e
  case h_2 => cases e
  rename_i g
  cases e
  refine ⟨_, (cParts.eq_1 g).trans ?_, val_lens hC⟩
  rw [rd_nil hC]; rfl
def cBottomV : Con := fun l os => match l, os with
  | [.z (.slice (.slice (.int .i64))) g], [] => some (Val g, [.z (.slice (.int .u64)) (botG g), .z (.int .i64) 0], [])
  | _, _ => none
theorem valid16v {B : Base} (hB : Tabs B) : Valid B Tryd.prog 16 cBottomV := valid_less (valid16 hB) fun l os C rs os' e hC => by
  unfold cBottomV at e
  split at e
  case h_2 => cases e
  rename_i g
  cases e
  refine ⟨_, (cBottom.eq_1 g).trans ?_, val_lens hC⟩
  rw [rd_nil hC]; rfl
def cOrderV : Con := fun l os => match l, os with
  | [.z (.slice (.slice (.int .i64))) g], [] => some (Val g, [.z (.slice (.int .i64)) (ordV g), .z (.int .i64) (ordE g)], [])
  | _, _ => none
theorem valid18v {B : Base} (hB : Tabs B) : Valid B Tryd.prog 18 cOrderV := valid_less (valid18 hB) fun l os C rs os' e hC => by
  unfold cOrderV at e
  split at e
  case h_2 => cases e
  rename_i g
  cases e
  refine ⟨_, (cOrder.eq_1 g).trans ?_, val_lens hC⟩
  rw [rd_nil hC]; rfl
end Go.Proofs.YtcopdikdkkdlfaaDoor
end
