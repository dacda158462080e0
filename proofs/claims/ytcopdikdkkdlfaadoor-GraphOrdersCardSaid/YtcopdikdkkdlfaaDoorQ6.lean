/- GraphOrders: the whole card, with no condition. -/
import Derived.Test.YtcopdikdkkdlfaaDoorQ4
import Derived.Test.YtcopdikdkkdlfaaDoorQ3
import Derived.Test.YtcopdikdkkdlfaaDoorProg
import Derived.Test.YtcopdikdkkdlfaaDoorQ5
import Derived.WalkKit
set_option linter.all false
set_option linter.unusedSimpArgs false
set_option linter.unusedVariables false

section
/- What the laws ask, in plain words. No program is in sight. -/
namespace Go.Cm.Gr
open Go.Cm
theorem shr_fit {m n : Nat} (h : m < 2 ^ n) (hn : n ≤ 32) : ((m : Int)).fdiv (2 ^ (min ((n : Int)).toNat IntKind.u64.bits)) = 0 := by
  rw [Int.toNat_natCast, shr64 (by omega), shr_zero.2 h]; rfl
theorem one_raw {v : Nat} (hv : v < 32) : IntKind.u64.wrap (1 * 2 ^ (min ((v : Int)).toNat IntKind.u64.bits)) = ((1 <<< v : Nat) : Int) := by
  rw [Int.toNat_natCast, shl1 (by omega)]
theorem one_ok {g : Gph} (hg : Val g) {v : Nat} (hv : v < g.length) : U64 (IntKind.u64.wrap (1 * 2 ^ (min ((v : Int)).toNat IntKind.u64.bits))) ∧ (IntKind.u64.wrap (1 * 2 ^ (min ((v : Int)).toNat IntKind.u64.bits))).toNat < 2 ^ g.length := by
  have := hg.most
  rw [one_raw (by omega), Int.toNat_natCast]
  exact ⟨u64_nat (one_lt32 (by omega)), one_lt hv⟩
theorem bit_is {m v : Nat} (hm : m < 2 ^ 64) (hv : v ≤ 64) : IntKind.u64.wrap ((BitVec.ofInt IntKind.u64.bits (((m : Int)).fdiv (2 ^ (min ((v : Int)).toNat IntKind.u64.bits))) &&& BitVec.ofInt IntKind.u64.bits 1).toNat : Int) = if m.testBit v = true then 1 else 0 := by
  rw [Int.toNat_natCast]; exact bit64 hm hv
theorem bit_eq1 {m v : Nat} (hm : m < 2 ^ 64) (hv : v ≤ 64) : (IntKind.u64.wrap ((BitVec.ofInt IntKind.u64.bits (((m : Int)).fdiv (2 ^ (min ((v : Int)).toNat IntKind.u64.bits))) &&& BitVec.ofInt IntKind.u64.bits 1).toNat : Int) == 1) = m.testBit v := by
  rw [bit_is hm hv]; cases m.testBit v <;> rfl
theorem bit_eq0 {m v : Nat} (hm : m < 2 ^ 64) (hv : v ≤ 64) : (IntKind.u64.wrap ((BitVec.ofInt IntKind.u64.bits (((m : Int)).fdiv (2 ^ (min ((v : Int)).toNat IntKind.u64.bits))) &&& BitVec.ofInt IntKind.u64.bits 1).toNat : Int) == 0) = !m.testBit v := by
  rw [bit_is hm hv]; cases m.testBit v <;> rfl
theorem back_lt {g : Gph} (s : Nat) : back g s < 2 ^ g.length := mask_lt _ _
theorem lt64 {g : Gph} (hg : Val g) {s : Nat} (hs : s < 2 ^ g.length) : s < 2 ^ 64 := Nat.lt_trans (lt32 hg hs) (by decide)
theorem turn_eq {g : Gph} (hg : Val g) {s v : Nat} (hs : s < 2 ^ g.length) (hv : v < g.length) : (IntKind.u64.wrap ((BitVec.ofInt IntKind.u64.bits (reach g (IntKind.u64.wrap (1 * 2 ^ (min ((v : Int)).toNat IntKind.u64.bits))).toNat : Int) &&& BitVec.ofInt IntKind.u64.bits (s : Int)).toNat : Int) != 0) = (IntKind.u64.wrap ((BitVec.ofInt IntKind.u64.bits (((back g s : Nat) : Int).fdiv (2 ^ (min ((v : Int)).toNat IntKind.u64.bits))) &&& BitVec.ofInt IntKind.u64.bits 1).toNat : Int) == 1) := by
  have := hg.most
  rw [bit_eq1 (lt64 hg (back_lt s)) (by omega), one_raw (by omega), Int.toNat_natCast]
  have h := hits_iff hg (u64_nat (lt32 hg hs)) hv
  rw [Int.toNat_natCast] at h
  have hb : (back g s).testBit v = hits g s v := by
    rw [← back_mask, mask_bit]; simp [hv]
  rw [hb]
  cases hh : hits g s v with
  | false => rw [h.2 hh]; rfl
  | true =>
    rw [bne_iff_ne]
    intro e
    rw [h.1 e] at hh; cases hh
end Go.Cm.Gr
end

section
/- GraphOrders in plain words. No program is in sight. -/
namespace Go.Cm.Gr
open Go.Cm
def cycV (g : Gph) (z : Nat) : Bool := decide ((partsG g).length < g.length) || (List.range z).any fun v => (row g v).contains (v : Int)
def cycG (g : Gph) : Bool := cycV g g.length
theorem cycV_zero (g : Gph) : cycV g 0 = decide ((partsG g).length < g.length) := by simp [cycV]
theorem cycV_succ (g : Gph) (z : Nat) : cycV g (z + 1) = (cycV g z || (row g z).contains (z : Int)) := by
  unfold cycV
  rw [List.range_succ, List.any_append, ← Bool.or_assoc]; simp

/-- A walk of at least one edge from a node to itself. -/
def Loops (g : Gph) (v : Nat) : Prop := ∃ w, E g v w ∧ R g w v

theorem heads_few {g : Gph} (hg : Val g) {u v : Nat} (hv : v < g.length) (huv : u < v) (h1 : R g v u) (h2 : R g u v) : (heads g).length < g.length := by
  have hn : v ∉ heads g := fun h => by
    have := (head_iff.1 h).2 u huv
    rw [(scc_bit hg hv).2 ⟨h1, h2⟩] at this; cases this
  have hs : (v :: heads g).Nodup := List.nodup_cons.2 ⟨hn, ((heads_up g).imp fun {a b} h => Nat.ne_of_lt h)⟩
  have := hs.length_le_of_subset (l₂ := List.range g.length) (fun x hx => by
    rw [List.mem_range]
    rcases List.mem_cons.1 hx with rfl | hx
    · exact hv
    · exact (head_iff.1 hx).1)
  simp at this
  omega

theorem parts_len (g : Gph) : (partsG g).length = (heads g).length := by simp [partsG]

theorem cyc_of_loop {g : Gph} (hg : Val g) {v : Nat} (h : Loops g v) : cycG g = true := by
  obtain ⟨w, he, hr⟩ := h
  have hv := (hg.lt he).1
  have hw := (hg.lt he).2
  unfold cycG cycV
  rw [Bool.or_eq_true]
  by_cases hvw : w = v
  · subst hvw
    refine .inr (List.any_eq_true.2 ⟨w, List.mem_range.2 hv, ?_⟩)
    rw [List.contains_eq_mem, decide_eq_true_eq]; exact he
  · refine .inl (decide_eq_true ?_)
    rw [parts_len]
    rcases Nat.lt_or_ge v w with h | h
    · exact heads_few hg hw h hr (R.one he)
    · exact heads_few hg hv (by omega : w < v) (R.one he) hr

theorem loop_of_cyc {g : Gph} (hg : Val g) (h : cycG g = true) : ∃ v, v < g.length ∧ Loops g v := by
  unfold cycG cycV at h
  rw [Bool.or_eq_true] at h
  rcases h with h | h
  · have h := of_decide_eq_true h
    rw [parts_len] at h
    have hne : ∃ v, v < g.length ∧ v ∉ heads g := by
      refine Classical.byContradiction fun hc => ?_
      have : (List.range g.length).Nodup := List.nodup_range
      have := this.length_le_of_subset (l₂ := heads g) (fun x hx => Classical.byContradiction fun hx2 => hc ⟨x, List.mem_range.1 hx, hx2⟩)
      rw [List.length_range] at this; omega
    obtain ⟨v, hv, hn⟩ := hne
    have : ∃ u, u < v ∧ (scc g v).testBit u = true := by
      refine Classical.byContradiction fun hc => hn (head_iff.2 ⟨hv, fun u hu => ?_⟩)
      cases hb : (scc g v).testBit u with
      | false => rfl
      | true => exact absurd ⟨u, hu, hb⟩ hc
    obtain ⟨u, hu, hb⟩ := this
    obtain ⟨h1, h2⟩ := (scc_bit hg hv).1 hb
    have key : ∀ {a b : Nat}, R g a b → a ≠ b → ∃ w, E g a w ∧ R g w b := by
      intro a b hr
      induction hr with
      | refl => intro h; exact absurd rfl h
      | @tail x y hr he ih =>
        intro hne
        by_cases hx : a = x
        · subst hx; exact ⟨y, he, .refl y⟩
        · obtain ⟨w, h3, h4⟩ := ih hx
          exact ⟨w, h3, .tail h4 he⟩
    obtain ⟨w, h3, h4⟩ := key h1 (by omega)
    exact ⟨v, hv, w, h3, h4.trans h2⟩
  · obtain ⟨v, hv, h⟩ := List.any_eq_true.1 h
    rw [List.contains_eq_mem, decide_eq_true_eq] at h
    exact ⟨v, List.mem_range.1 hv, v, h, .refl v⟩

/-- The first nodes of an order. -/
theorem grd_take {g : Gph} : ∀ {k : Nat} {l : List Nat}, grd g k = some l → ∀ j, j < k → grd g j = some (l.take j) ∧ ∃ x, l[j]? = some x ∧ pickG g (l.take j) = some x
  | 0, l, _, j, hj => by omega
  | k + 1, l, h, j, hj => by
    simp only [grd] at h
    split at h
    · rename_i l' hl
      obtain ⟨x, hx, rfl⟩ := Option.map_eq_some_iff.1 h
      have hlen := grd_len hl
      rcases Nat.lt_succ_iff_lt_or_eq.1 hj with hj | hj
      · obtain ⟨h1, y, h2, h3⟩ := grd_take hl j hj
        rw [List.take_append_of_le_length (by omega), List.getElem?_append_left (by omega)]
        exact ⟨h1, y, h2, h3⟩
      · subst hj
        rw [← hlen, List.take_left]
        refine ⟨by rw [hlen]; exact hl, x, by simp, hx⟩
    · cases h

theorem ord_all {g : Gph} (hg : Val g) {l : List Nat} (h : ordG g = some l) : l.length = g.length ∧ (∀ v ∈ l, v < g.length) ∧ ∀ v, v < g.length → v ∈ l := by
  have h1 := grd_len h
  have h2 := grd_ord hg h
  refine ⟨h1, h2.lt, fun v hv => ?_⟩
  refine Classical.byContradiction fun hn => ?_
  have hs : (v :: l).Nodup := List.nodup_cons.2 ⟨hn, h2.nodup⟩
  have := hs.length_le_of_subset (l₂ := List.range g.length) (fun x hx => by
    rw [List.mem_range]
    rcases List.mem_cons.1 hx with rfl | hx
    · exact hv
    · exact h2.lt x hx)
  simp at this; omega

/-- Edges lead on: a prefix of an order has no edge into it from outside, and none into its next node. -/
theorem ord_edges {g : Gph} (hg : Val g) {l : List Nat} (h : ordG g = some l) {j v : Nat} (hj : j < g.length) (hv : l[j]? = some v) : ∀ u, E g u v → u ∈ l.take j := by
  obtain ⟨_, x, h1, h2⟩ := grd_take h j hj
  rw [hv] at h1; cases h1
  have := (ready_iff hg).1 (pick_some h2).2.1
  exact this.2

theorem no_loop {g : Gph} (hg : Val g) {l : List Nat} (h : ordG g = some l) {v : Nat} (hv : v < g.length) : ¬ Loops g v := by
  rintro ⟨w, he, hr⟩
  obtain ⟨hlen, _, hall⟩ := ord_all hg h
  -- all that reaches a node of a prefix lies in the prefix
  have hpre : ∀ j, j ≤ g.length → ∀ {a b : Nat}, R g a b → b ∈ l.take j → a ∈ l.take j := by
    intro j hj a b hab
    induction hab with
    | refl => exact id
    | @tail x y hr he ih =>
      intro hb
      refine ih ?_
      obtain ⟨i, hi, e⟩ := List.mem_iff_getElem.1 hb
      rw [List.length_take] at hi
      rw [List.getElem_take] at e
      have := ord_edges hg h (j := i) (v := y) (by omega) (by rw [← e, List.getElem?_eq_getElem]) x he
      obtain ⟨i2, hi2, e2⟩ := List.mem_iff_getElem.1 this
      rw [List.length_take] at hi2
      rw [List.getElem_take] at e2
      exact List.mem_iff_getElem.2 ⟨i2, by rw [List.length_take]; omega, by rw [List.getElem_take]; exact e2⟩
  obtain ⟨i, hi, e⟩ := List.mem_iff_getElem.1 (hall w ((hg.lt he).2))
  have hw : l[i]? = some w := by rw [← e, List.getElem?_eq_getElem]
  have hv1 : v ∈ l.take i := ord_edges hg h (by omega) hw v he
  have hw1 : w ∈ l.take i := hpre i (by omega) hr hv1
  obtain ⟨i2, hi2, e2⟩ := List.mem_iff_getElem.1 hw1
  rw [List.length_take] at hi2
  rw [List.getElem_take] at e2
  have hnd := (grd_ord hg h).nodup
  exact List.pairwise_iff_getElem.1 hnd i2 i (by omega) hi (by omega) (e2.trans e.symm)

/-- Where no node is ready, there is a way back to a node. -/
theorem stuck_loop {g : Gph} (hg : Val g) (h : ordG g = none) : ∃ v, v < g.length ∧ Loops g v := by
  have hst : ∃ k l, k < g.length ∧ grd g k = some l ∧ pickG g l = none := by
    have aux : ∀ k, grd g k = none → ∃ j l, j < k ∧ grd g j = some l ∧ pickG g l = none := by
      intro k
      induction k with
      | zero => intro h; simp [grd] at h
      | succ k ih =>
        intro h
        cases hk : grd g k with
        | none =>
          obtain ⟨j, l, h1, h2⟩ := ih hk
          exact ⟨j, l, by omega, h2⟩
        | some l =>
          simp only [grd, hk, Option.map_eq_none_iff] at h
          exact ⟨k, l, by omega, hk, h⟩
    exact aux _ h
  obtain ⟨k, l, hk, hl, hp⟩ := hst
  have hord := grd_ord hg hl
  have hlen := grd_len hl
  have hfree : ∃ v, v < g.length ∧ v ∉ l := by
    refine Classical.byContradiction fun hc => ?_
    have := (List.nodup_range (n := g.length)).length_le_of_subset (l₂ := l) (fun x hx => Classical.byContradiction fun hx2 => hc ⟨x, List.mem_range.1 hx, hx2⟩)
    rw [List.length_range] at this; omega
  have hpred : ∀ v, v < g.length → v ∉ l → ∃ u, u < g.length ∧ u ∉ l ∧ E g u v := by
    intro v hv hn
    have := pick_none hp v hv
    refine Classical.byContradiction fun hc => ?_
    have : ready g l v = true := (ready_iff hg).2 ⟨hn, fun u hu => Classical.byContradiction fun hu2 => hc ⟨u, (hg.lt hu).1, hu2, hu⟩⟩
    rw [pick_none hp v hv] at this; cases this
  -- a long way back
  have hwalk : ∀ m, ∃ f : Nat → Nat, (∀ i, i ≤ m → f i < g.length ∧ f i ∉ l) ∧ ∀ i, i < m → E g (f (i + 1)) (f i) := by
    intro m
    induction m with
    | zero =>
      obtain ⟨v, h1, h2⟩ := hfree
      exact ⟨fun _ => v, fun i _ => ⟨h1, h2⟩, fun i hi => by omega⟩
    | succ m ih =>
      obtain ⟨f, h1, h2⟩ := ih
      obtain ⟨u, h3, h4, h5⟩ := hpred (f m) (h1 m (Nat.le_refl _)).1 (h1 m (Nat.le_refl _)).2
      refine ⟨fun i => if i = m + 1 then u else f i, fun i hi => ?_, fun i hi => ?_⟩
      · by_cases e : i = m + 1
        · simp only [e, if_true]; exact ⟨h3, h4⟩
        · simp only [if_neg e]; exact h1 i (by omega)
      · by_cases e : i = m
        · subst e; simpa using h5
        · simp only [if_neg (show ¬ i + 1 = m + 1 by omega), if_neg (show ¬ i = m + 1 by omega)]; exact h2 i (by omega)
  obtain ⟨f, h1, h2⟩ := hwalk g.length
  have hback : ∀ d i, i + d ≤ g.length → R g (f (i + d)) (f i) := by
    intro d
    induction d with
    | zero => intro i _; exact .refl _
    | succ d ih => intro i hi; exact (R.one (h2 (i + d) (by omega))).trans (ih i (by omega))
  have hrep : ∃ i j, i < j ∧ j ≤ g.length ∧ f i = f j := by
    refine Classical.byContradiction fun hc => ?_
    have hnd : ((List.range (g.length + 1)).map f).Nodup := by
      rw [List.Nodup, List.pairwise_map]
      refine (range_up _).imp_of_mem fun {a b} ha hb hab e => hc ⟨a, b, hab, by have := List.mem_range.1 hb; omega, e⟩
    have := hnd.length_le_of_subset (l₂ := List.range g.length) (fun x hx => by
      obtain ⟨i, hi, rfl⟩ := List.mem_map.1 hx
      exact List.mem_range.2 (h1 i (by have := List.mem_range.1 hi; omega)).1)
    simp at this
    omega
  obtain ⟨i, j, hij, hj, e⟩ := hrep
  refine ⟨f (i + 1), (h1 (i + 1) (by omega)).1, f i, h2 i (by omega), ?_⟩
  rw [e]
  have := hback (j - (i + 1)) (i + 1) (by omega)
  rwa [show i + 1 + (j - (i + 1)) = j by omega] at this

theorem cyc_ord {g : Gph} (hg : Val g) : cycG g = !(ordG g).isSome := by
  cases h : ordG g with
  | none =>
    obtain ⟨v, _, hl⟩ := stuck_loop hg h
    rw [cyc_of_loop hg hl]; rfl
  | some l =>
    cases hc : cycG g with
    | false => rfl
    | true =>
      obtain ⟨v, hv, hl⟩ := loop_of_cyc hg hc
      exact absurd hl (no_loop hg h hv)
theorem ord_e {g : Gph} : ordE g = if (ordG g).isSome = true then 0 else 81 := by
  unfold ordE; cases ordG g <;> rfl
theorem ord_v {g : Gph} (h : ordG g = none) : ordV g = [] := by unfold ordV; rw [h]
theorem ord_vs {g : Gph} {l : List Nat} (h : ordG g = some l) : ordV g = l.map Int.ofNat := by unfold ordV; rw [h]
/-- The first test. -/
theorem ord_test {g : Gph} (hg : Val g) (h : (cycG g || ordE g != 0) = true) : (cycG g && ordE g == 81 && ((ordV g).length : Int) == 0) = true := by
  rw [cyc_ord hg, ord_e] at *
  cases ho : ordG g with
  | none => rw [ord_v ho]; rfl
  | some l => rw [ho] at h; simp at h
theorem ord_some {g : Gph} (hg : Val g) (h : (cycG g || ordE g != 0) = false) : ∃ l, ordG g = some l := by
  cases ho : ordG g with
  | some l => exact ⟨l, rfl⟩
  | none => rw [ord_e, ho] at h; simp at h
theorem ord_at {g : Gph} (hg : Val g) {l : List Nat} (h : ordG g = some l) {k : Nat} (hk : k < g.length) : ∃ x : Nat, gi (l.map Int.ofNat) k = (x : Int) ∧ x < g.length ∧ x ∉ l.take k ∧ pickG g (l.take k) = some x ∧ l.take (k + 1) = l.take k ++ [x] := by
  obtain ⟨_, x, h1, h2⟩ := grd_take h k hk
  have h3 := pick_some h2
  refine ⟨x, ?_, h3.1, ((ready_iff hg).1 h3.2.1).1, h2, by rw [List.take_succ, h1]; rfl⟩
  unfold gi
  rw [List.getD_eq_getElem?_getD, List.getElem?_map, h1]; rfl
theorem take_lt {g : Gph} (hg : Val g) {l : List Nat} (h : ordG g = some l) (k : Nat) : setOf (l.take k) < 2 ^ g.length := setOf_lt fun v hv => (ord_all hg h).2.1 v (List.mem_of_mem_take hv)
theorem ord_ok {g : Gph} (hg : Val g) {l : List Nat} (h : ordG g = some l) {k y : Nat} (hy : y < g.length) (hn : y ∉ l.take k) : (decide ((y : Int) < 0) || decide ((g.length : Int) ≤ (y : Int)) || IntKind.u64.wrap ((BitVec.ofInt IntKind.u64.bits (((setOf (l.take k) : Nat) : Int).fdiv (2 ^ (min ((y : Int)).toNat IntKind.u64.bits))) &&& BitVec.ofInt IntKind.u64.bits 1).toNat : Int) == 1) = false := by
  have := hg.most
  rw [bit_eq1 (lt64 hg (take_lt hg h k)) (by omega), bits_of, decide_eq_false (by omega), decide_eq_false (by omega)]
  simpa using hn
theorem free_ok0 {g : Gph} (hg : Val g) {l : List Nat} (h : ordG g = some l) {k w : Nat} (hw : w < g.length) : (IntKind.u64.wrap ((BitVec.ofInt IntKind.u64.bits (((setOf (l.take k) : Nat) : Int).fdiv (2 ^ (min ((w : Int)).toNat IntKind.u64.bits))) &&& BitVec.ofInt IntKind.u64.bits 1).toNat : Int) == 0) = readyW g (l.take k) w 0 := by
  have := hg.most
  rw [bit_eq0 (lt64 hg (take_lt hg h k)) (by omega), readyW_zero, bits_of]
theorem free_ok1 {g : Gph} (hg : Val g) {l : List Nat} (h : ordG g = some l) {k w u : Nat} (hu : u < g.length) : (readyW g (l.take k) w u && (IntKind.u64.wrap ((BitVec.ofInt IntKind.u64.bits (((setOf (l.take k) : Nat) : Int).fdiv (2 ^ (min ((u : Int)).toNat IntKind.u64.bits))) &&& BitVec.ofInt IntKind.u64.bits 1).toNat : Int) == 1 || !(row' g u).contains (w : Int))) = readyW g (l.take k) w (u + 1) := by
  have := hg.most
  rw [bit_eq1 (lt64 hg (take_lt hg h k)) (by omega), bits_of, readyW_succ]; rfl
theorem pick_ok {g : Gph} {m : List Nat} {w y u : Nat} (hp : pickG g m = some y) (hu : u = g.length) : (readyW g m w u && decide ((w : Int) < (y : Int)) || (w : Int) == (y : Int) && !readyW g m w u) = false := by
  rw [readyW_end hu]
  obtain ⟨_, h1, h2⟩ := pick_some hp
  rcases Nat.lt_trichotomy w y with h | h | h
  · rw [h2 w h]; simp; omega
  · subst h; rw [h1]; simp
  · simp; omega
theorem put_ok {g : Gph} (hg : Val g) {l : List Nat} (h : ordG g = some l) {k y : Nat} (hy : y < g.length) (e : l.take (k + 1) = l.take k ++ [y]) : IntKind.u64.wrap ((BitVec.ofInt IntKind.u64.bits (setOf (l.take k) : Int) ||| BitVec.ofInt IntKind.u64.bits (IntKind.u64.wrap (1 * 2 ^ (min ((y : Int)).toNat IntKind.u64.bits)))).toNat : Int) = (setOf (l.take (k + 1)) : Int) := by
  have := hg.most
  rw [one_raw (by omega), or64 (lt64 hg (take_lt hg h k)) (lt64 hg (one_lt hy)), e, setOf_snoc]
end Go.Cm.Gr
end

section
/- The functions of the package graph, one after the other: each meets its contract. -/
set_option linter.unusedSimpArgs false
set_option linter.unusedVariables false
set_option maxRecDepth 100000
namespace Go.Proofs.YtcopdikdkkdlfaaDoor
open Go Go.Cm Go.Cm.Gr Go.Proofs

def tab7 (B : Base) : Tab := { types := [(3, (.int .i64)), (24, (.st (.pair (.int .u8) (.pair (.slice (.arr 2 (.int .u8))) .bool)))), (27, (.slice (.slice (.int .i64)))), (30, (.int .u64)), (32, (.int .i64)), (36, (.slice (.int .i64))), (37, (.slice (.int .u64)))], elems := [], cons := [(10, cWorks), (11, cDraft), (15, cPartsV), (18, cOrderV), (21, cHas)], hint := [], N := 147, base := B }
theorem good7 {B : Base} (hB : Tabs B) : MGood Tryd.prog (tab7 B) := ⟨⟨types_cons ty3 (types_cons ty24 (types_cons ty27 (types_cons ty30 (types_cons ty32 (types_cons ty36 (types_cons ty37 (types_nil))))))), elems_nil, by simp only [tab7, ioB]; omega⟩, cons_ok (cals_cons (cal_ok Tryd.func10 (by kernel_rfl) rfl (valid10 hB)) (cals_cons (cal_ok Tryd.func11 (by kernel_rfl) rfl (valid11 hB)) (cals_cons (cal_ok Tryd.func15 (by kernel_rfl) rfl (valid15v hB)) (cals_cons (cal_ok Tryd.func18 (by kernel_rfl) rfl (valid18v hB)) (cals_cons (cal_ok Tryd.func21 (by kernel_rfl) rfl (valid21 hB)) (cals_nil)))))), by kernel_rfl⟩
def cOrders : Con := fun l os => match l, os with
  | [.z (.st (.pair (.int .u8) (.pair (.slice (.arr 2 (.int .u8))) .bool))) d], [] => some (Dok d, [.z .bool true], [])
  | _, _ => none

set_option maxHeartbeats 2000000 in
theorem valid7 {B : Base} (hB : Tabs B) : Valid B Tryd.prog 7 cOrders := by
  refine valid_of_J (T := tab7 B) (good7 hB).tab Tryd.func7 rfl rfl rfl ?_
  intro args os C rs os' hc hC
  unfold cOrders at hc
  split at hc
  case h_2 => cases hc
  rename_i d
  cases hc
  refine ⟨by simp only [List.length_cons, List.length_nil, tab7]; omega, rfl, ?_⟩
  intro X hP hT hr
  have hG : MGood X.P X.T := by rw [hP, hT]; exact good7 hB
  unfold tab7 at hT
  have hX := And.intro (@cDraft.eq_1) <| And.intro (@cHas.eq_1) <| And.intro (@cOrderV.eq_1) <| And.intro (@cPartsV.eq_1) <| @cWorks.eq_1
  simp only [Tryd.f7, argEnv, ioList, ioB]
  refine r_seq ?_
  have hv := draft_val d
  have n1 := hv.one
  have n2 := hv.most
  refine q_region hG ?_ ?_ -- R0
  · first | trivial | omega | (simp; done) | (simp; omega)
  refine k_seq ?_
  refine r_seq ?_
  refine r_seq ?_
  refine q_region hG ?_ ?_ -- R1
  · first | trivial | omega | (simp; done) | (simp; omega)
  refine k_seq ?_
  refine q_cond ?_ ?_
  · intro hb0
    cases hb0
  · intro hb0
    try simp only [decide_eq_true_eq, decide_eq_false_iff_not, beq_eq_false_iff_ne, bne_eq_false_iff_eq, Bool.not_eq_false', Bool.and_eq_false_imp] at hb0
    try simp only [nth_gi, nth_row] at hb0
    refine r_skip ?_
    refine k_seq ?_
    refine r_seq ?_
    refine q_region hG ?_ ?_ -- R3
    · try simp only [and_true, true_and]
      exact hC
    refine k_seq ?_
    refine r_seq ?_
    refine q_region hG ?_ ?_ -- R4
    · try simp only [and_true, true_and]
      exact hv
    refine k_seq ?_
    refine r_seq ?_
    refine q_region hG ?_ ?_ -- R5
    · try simp only [and_true, true_and]
      exact hv
    refine k_seq ?_
    refine r_seq ?_
    refine r_seq ?_
    refine q_region hG ?_ ?_ -- R6
    · first | trivial | omega | (simp; done) | (simp; omega)
    refine k_seq ?_
    refine q_cond ?_ ?_
    · intro hb1
      cases hb1
    · intro hb1
      try simp only [decide_eq_true_eq, decide_eq_false_iff_not, beq_eq_false_iff_ne, bne_eq_false_iff_eq, Bool.not_eq_false', Bool.and_eq_false_imp] at hb1
      try simp only [nth_gi, nth_row] at hb1
      refine r_skip ?_
      refine k_seq ?_
      refine r_seq ?_
      refine q_region hG ?_ ?_ -- R8
      · first | trivial | omega | (simp; done) | (simp; omega)
      refine k_seq ?_
      refine r_seq ?_
      refine r_seq ?_
      refine q_region hG ?_ ?_ -- R9
      · first | trivial | omega | (simp; done) | (simp; omega)
      refine k_seq ?_
      refine j_block ?_
      refine j_loop (fun (z : Nat) => (⟨[(2, .l (.z .bool false)), (3, .l (.z (.slice (.slice (.int .i64))) (gD d))), (4, .l (.z (.slice (.int .i64)) (ordV (gD d)))), (5, .l (.z (.int .i64) (ordE (gD d)))), (8, .l (.z .bool (cycV (gD d) z))), (39, .l (.z (.slice (.slice (.int .i64))) (gD d))), (40, .l (.z (.int .i64) ((gD d).length : Int))), (41, .l (.z (.int .i64) (z : Int)))], []⟩ : AState)) (fun z => z ≤ (gD d).length) (fun z => (gD d).length - z) 0 ?_ ?_ ?_
      · simp only [ml0, ml1, Nat.reduceLT, Nat.reduceEqDiff, Nat.reduceAdd, Nat.reduceMul, Nat.reduceSub, Nat.reduceLeDiff, Nat.reduceBEq, Nat.reduceBNe, reduceIte, reduceDIte, reduceCtorEq]
        exact ⟨by rw [cycV_zero]; exact decide_eq_decide.2 Int.ofNat_lt, rfl⟩
      · omega
      · rintro v g1
        try dsimp only at g1
        refine r_seq ?_
        refine q_region hG ?_ ?_ -- R10
        · first | trivial | omega | (simp; done) | (simp; omega)
        refine k_seq ?_
        refine r_seq ?_
        refine q_cond ?_ ?_
        · intro hb2
          try simp only [decide_eq_true_eq, decide_eq_false_iff_not, beq_iff_eq, bne_iff_ne, Bool.not_eq_true', Bool.and_eq_true] at hb2
          try simp only [nth_gi, nth_row] at hb2
          refine r_skip ?_
          refine k_seq ?_
          refine r_seq ?_
          refine j_block ?_
          refine r_seq ?_
          refine q_region hG ?_ ?_ -- R11
          · try simp only [and_true, true_and]
            omega
          refine k_seq ?_
          refine q_region hG ?_ ?_ -- R12
          · try simp only [and_true, true_and]
            (repeat' (first | apply And.intro | intro _)) <;> first | assumption | omega | (rename_i h; rw [h]; rfl) | (rename_i h1 h2; rw [h1, h2]; rfl) | exact Nat.le_trans (row_len hv v) (by decide)
          refine k_block ?_
          refine k_seq ?_
          refine q_region hG ?_ ?_ -- R13
          · first | trivial | omega | (simp; done) | (simp; omega)
          show ∃ z, _
          simp only [ml0, ml1, Nat.reduceLT, Nat.reduceEqDiff, Nat.reduceAdd, Nat.reduceMul, Nat.reduceSub, Nat.reduceLeDiff, Nat.reduceBEq, Nat.reduceBNe, reduceIte, reduceDIte, reduceCtorEq]
          exact ⟨v + 1, (cycV_succ _ _).symm, by rw [wi (by omega) (by omega)]; simp, by omega, by omega⟩
        · intro hb2
          try simp only [decide_eq_true_eq, decide_eq_false_iff_not, beq_eq_false_iff_ne, bne_eq_false_iff_eq, Bool.not_eq_false', Bool.and_eq_false_imp] at hb2
          try simp only [nth_gi, nth_row] at hb2
          refine r_exit ?_
          refine k_seq_exit ?_
          refine k_round_exit ?_
          refine k_block_exit ?_
          refine k_seq ?_
          refine r_seq ?_
          refine r_seq ?_
          refine q_region hG ?_ ?_ -- R14
          · try simp only [and_true, true_and]
            (repeat' (first | apply And.intro | intro _)) <;> first | assumption | omega | (rename_i h; rw [h]; rfl) | (rename_i h1 h2; rw [h1, h2]; rfl)
          refine k_seq ?_
          refine q_cond ?_ ?_
          · intro hb3
            try simp only [decide_eq_true_eq, decide_eq_false_iff_not, beq_iff_eq, bne_iff_ne, Bool.not_eq_true', Bool.and_eq_true] at hb3
            try simp only [nth_gi, nth_row] at hb3
            refine r_seq ?_
            refine q_region hG ?_ ?_ -- R15
            · try simp only [and_true, true_and]
              (repeat' (first | apply And.intro | intro _)) <;> first | assumption | omega | (rename_i h; rw [h]; rfl) | (rename_i h1 h2; rw [h1, h2]; rfl)
            refine k_seq ?_
            refine r_ret ?_
            refine k_seq_ret ?_
            refine ⟨[], ?_⟩
            simp only [hT, tab7, mr0, mr1, mr2, isNilP, Nat.reduceLT, Nat.reduceEqDiff, Nat.reduceAdd, Nat.reduceMul, Nat.reduceSub, Nat.reduceLeDiff, Nat.reduceBEq, Nat.reduceBNe, reduceIte, reduceDIte, reduceCtorEq]
            rw [show v = (gD d).length by omega] at hb3 ⊢
            exact ord_test hv hb3
          · intro hb3
            try simp only [decide_eq_true_eq, decide_eq_false_iff_not, beq_eq_false_iff_ne, bne_eq_false_iff_eq, Bool.not_eq_false', Bool.and_eq_false_imp] at hb3
            try simp only [nth_gi, nth_row] at hb3
            rw [show v = (gD d).length by omega] at hb3
            obtain ⟨l, hl⟩ := ord_some hv hb3
            have ov := ord_vs hl
            obtain ⟨a1, a2, a3⟩ := ord_all hv hl
            clear hb3
            refine r_skip ?_
            refine k_seq ?_
            refine r_seq ?_
            refine r_seq ?_
            refine q_region hG ?_ ?_ -- R16
            · first | trivial | omega | (simp; done) | (simp; omega)
            refine k_seq ?_
            refine q_cond ?_ ?_
            · intro hb4
              exact absurd (by rw [ov, List.length_map, a1]) (bne_iff_ne.1 hb4)
            · intro hb4
              try simp only [decide_eq_true_eq, decide_eq_false_iff_not, beq_eq_false_iff_ne, bne_eq_false_iff_eq, Bool.not_eq_false', Bool.and_eq_false_imp] at hb4
              try simp only [nth_gi, nth_row] at hb4
              refine r_skip ?_
              refine k_seq ?_
              refine r_seq ?_
              refine q_region hG ?_ ?_ -- R18
              · first | trivial | omega | (simp; done) | (simp; omega)
              refine k_seq ?_
              refine r_seq ?_
              refine r_seq ?_
              refine q_region hG ?_ ?_ -- R19
              · first | trivial | omega | (simp; done) | (simp; omega)
              refine k_seq ?_
              refine j_block ?_
              refine j_loop (fun (z : Nat) => (⟨[(2, .l (.z .bool false)), (3, .l (.z (.slice (.slice (.int .i64))) (gD d))), (4, .l (.z (.slice (.int .i64)) (l.map Int.ofNat))), (73, .l (.z (.slice (.int .i64)) (l.map Int.ofNat))), (74, .l (.z (.int .i64) ((gD d).length : Int))), (75, .l (.z (.int .i64) (z : Int))), (11, .l (.z (.int .u64) (setOf (l.take z) : Int)))], []⟩ : AState)) (fun z => z ≤ (gD d).length) (fun z => (gD d).length - z) 0 ?_ ?_ ?_
              · simp only [ml0, ml1, Nat.reduceLT, Nat.reduceEqDiff, Nat.reduceAdd, Nat.reduceMul, Nat.reduceSub, Nat.reduceLeDiff, Nat.reduceBEq, Nat.reduceBNe, reduceIte, reduceDIte, reduceCtorEq]
                rw [ov]
                exact ⟨rfl, rfl, by rw [List.length_map, a1], rfl, rfl⟩
              · omega
              · rintro k g2
                try dsimp only at g2
                refine r_seq ?_
                refine q_region hG ?_ ?_ -- R20
                · first | trivial | omega | (simp; done) | (simp; omega)
                refine k_seq ?_
                refine r_seq ?_
                refine q_cond ?_ ?_
                · intro hb5
                  try simp only [decide_eq_true_eq, decide_eq_false_iff_not, beq_iff_eq, bne_iff_ne, Bool.not_eq_true', Bool.and_eq_true] at hb5
                  try simp only [nth_gi, nth_row] at hb5
                  obtain ⟨y, b1, b2, b3, b4, b5⟩ := ord_at hv hl (k := k) (by omega)
                  refine r_skip ?_
                  refine k_seq ?_
                  refine r_seq ?_
                  refine j_block ?_
                  refine r_seq ?_
                  refine q_region hG ?_ ?_ -- R21
                  · try simp only [and_true, true_and]
                    rw [List.length_map]
                    omega
                  refine k_seq ?_
                  refine r_seq ?_
                  refine r_seq ?_
                  refine q_region hG ?_ ?_ -- R22
                  · try simp only [and_true, true_and]
                    simp only [nth_gi, b1]
                    (repeat' (first | apply And.intro | intro _)) <;> first | assumption | omega | (rename_i h; rw [h]; rfl) | (rename_i h1 h2; rw [h1, h2]; rfl)
                  refine k_seq ?_
                  refine q_cond ?_ ?_
                  · intro hb6
                    simp only [nth_gi, b1] at hb6
                    exact absurd hb6 (Bool.eq_false_iff.1 (ord_ok hv hl b2 b3))
                  · intro hb6
                    try simp only [decide_eq_true_eq, decide_eq_false_iff_not, beq_eq_false_iff_ne, bne_eq_false_iff_eq, Bool.not_eq_false', Bool.and_eq_false_imp] at hb6
                    try simp only [nth_gi, nth_row] at hb6
                    clear hb6
                    refine r_skip ?_
                    refine k_seq ?_
                    refine r_seq ?_
                    refine r_seq ?_
                    refine q_region hG ?_ ?_ -- R24
                    · first | trivial | omega | (simp; done) | (simp; omega)
                    refine k_seq ?_
                    refine j_block ?_
                    refine j_loop (fun (z : Nat) => (⟨[(2, .l (.z .bool false)), (3, .l (.z (.slice (.slice (.int .i64))) (gD d))), (4, .l (.z (.slice (.int .i64)) (l.map Int.ofNat))), (73, .l (.z (.slice (.int .i64)) (l.map Int.ofNat))), (74, .l (.z (.int .i64) ((gD d).length : Int))), (75, .l (.z (.int .i64) (k : Int))), (11, .l (.z (.int .u64) (setOf (l.take k) : Int))), (13, .l (.z (.int .i64) (y : Int))), (94, .l (.z (.slice (.slice (.int .i64))) (gD d))), (95, .l (.z (.int .i64) ((gD d).length : Int))), (96, .l (.z (.int .i64) (z : Int)))], []⟩ : AState)) (fun z => z ≤ (gD d).length) (fun z => (gD d).length - z) 0 ?_ ?_ ?_
                    · simp only [ml0, ml1, Nat.reduceLT, Nat.reduceEqDiff, Nat.reduceAdd, Nat.reduceMul, Nat.reduceSub, Nat.reduceLeDiff, Nat.reduceBEq, Nat.reduceBNe, reduceIte, reduceDIte, reduceCtorEq]
                      exact ⟨b1, rfl⟩
                    · omega
                    · rintro w g3
                      try dsimp only at g3
                      refine r_seq ?_
                      refine q_region hG ?_ ?_ -- R25
                      · first | trivial | omega | (simp; done) | (simp; omega)
                      refine k_seq ?_
                      refine r_seq ?_
                      refine q_cond ?_ ?_
                      · intro hb7
                        try simp only [decide_eq_true_eq, decide_eq_false_iff_not, beq_iff_eq, bne_iff_ne, Bool.not_eq_true', Bool.and_eq_true] at hb7
                        try simp only [nth_gi, nth_row] at hb7
                        refine r_skip ?_
                        refine k_seq ?_
                        refine r_seq ?_
                        refine j_block ?_
                        refine r_seq ?_
                        refine q_region hG ?_ ?_ -- R26
                        · first | trivial | omega | (simp; done) | (simp; omega)
                        refine k_seq ?_
                        refine r_seq ?_
                        refine q_region hG ?_ ?_ -- R27
                        · try simp only [and_true, true_and]
                          omega
                        refine k_seq ?_
                        refine r_seq ?_
                        refine r_seq ?_
                        refine q_region hG ?_ ?_ -- R28
                        · first | trivial | omega | (simp; done) | (simp; omega)
                        refine k_seq ?_
                        refine j_block ?_
                        refine j_loop (fun (z : Nat) => (⟨[(2, .l (.z .bool false)), (3, .l (.z (.slice (.slice (.int .i64))) (gD d))), (4, .l (.z (.slice (.int .i64)) (l.map Int.ofNat))), (73, .l (.z (.slice (.int .i64)) (l.map Int.ofNat))), (74, .l (.z (.int .i64) ((gD d).length : Int))), (75, .l (.z (.int .i64) (k : Int))), (11, .l (.z (.int .u64) (setOf (l.take k) : Int))), (13, .l (.z (.int .i64) (y : Int))), (94, .l (.z (.slice (.slice (.int .i64))) (gD d))), (95, .l (.z (.int .i64) ((gD d).length : Int))), (96, .l (.z (.int .i64) (w : Int))), (14, .l (.z (.int .i64) (w : Int))), (15, .l (.z .bool (readyW (gD d) (l.take k) w z))), (104, .l (.z (.slice (.slice (.int .i64))) (gD d))), (105, .l (.z (.int .i64) ((gD d).length : Int))), (106, .l (.z (.int .i64) (z : Int)))], []⟩ : AState)) (fun z => z ≤ (gD d).length) (fun z => (gD d).length - z) 0 ?_ ?_ ?_
                        · simp only [ml0, ml1, Nat.reduceLT, Nat.reduceEqDiff, Nat.reduceAdd, Nat.reduceMul, Nat.reduceSub, Nat.reduceLeDiff, Nat.reduceBEq, Nat.reduceBNe, reduceIte, reduceDIte, reduceCtorEq]
                          exact ⟨free_ok0 hv hl (by omega), rfl⟩
                        · omega
                        · rintro u g4
                          try dsimp only at g4
                          refine r_seq ?_
                          refine q_region hG ?_ ?_ -- R29
                          · first | trivial | omega | (simp; done) | (simp; omega)
                          refine k_seq ?_
                          refine r_seq ?_
                          refine q_cond ?_ ?_
                          · intro hb8
                            try simp only [decide_eq_true_eq, decide_eq_false_iff_not, beq_iff_eq, bne_iff_ne, Bool.not_eq_true', Bool.and_eq_true] at hb8
                            try simp only [nth_gi, nth_row] at hb8
                            refine r_skip ?_
                            refine k_seq ?_
                            refine r_seq ?_
                            refine j_block ?_
                            refine r_seq ?_
                            refine q_region hG ?_ ?_ -- R30
                            · try simp only [and_true, true_and]
                              omega
                            refine k_seq ?_
                            refine q_region hG ?_ ?_ -- R31
                            · try simp only [and_true, true_and]
                              (repeat' (first | apply And.intro | intro _)) <;> first | assumption | omega | (rename_i h; rw [h]; rfl) | (rename_i h1 h2; rw [h1, h2]; rfl) | exact Nat.le_trans (row_len hv u) (by decide)
                            refine k_block ?_
                            refine k_seq ?_
                            refine q_region hG ?_ ?_ -- R32
                            · first | trivial | omega | (simp; done) | (simp; omega)
                            show ∃ z, _
                            simp only [ml0, ml1, Nat.reduceLT, Nat.reduceEqDiff, Nat.reduceAdd, Nat.reduceMul, Nat.reduceSub, Nat.reduceLeDiff, Nat.reduceBEq, Nat.reduceBNe, reduceIte, reduceDIte, reduceCtorEq]
                            exact ⟨u + 1, free_ok1 hv hl (by omega), by rw [wi (by omega) (by omega)]; simp, by omega, by omega⟩
                          · intro hb8
                            try simp only [decide_eq_true_eq, decide_eq_false_iff_not, beq_eq_false_iff_ne, bne_eq_false_iff_eq, Bool.not_eq_false', Bool.and_eq_false_imp] at hb8
                            try simp only [nth_gi, nth_row] at hb8
                            refine r_exit ?_
                            refine k_seq_exit ?_
                            refine k_round_exit ?_
                            refine k_block_exit ?_
                            refine k_seq ?_
                            refine r_seq ?_
                            refine q_region hG ?_ ?_ -- R33
                            · try simp only [and_true, true_and]
                              (repeat' (first | apply And.intro | intro _)) <;> first | assumption | omega | (rename_i h; rw [h]; rfl) | (rename_i h1 h2; rw [h1, h2]; rfl)
                            refine k_seq ?_
                            refine q_cond ?_ ?_
                            · intro hb9
                              exact absurd hb9 (Bool.eq_false_iff.1 (pick_ok b4 (by omega)))
                            · intro hb9
                              try simp only [decide_eq_true_eq, decide_eq_false_iff_not, beq_eq_false_iff_ne, bne_eq_false_iff_eq, Bool.not_eq_false', Bool.and_eq_false_imp] at hb9
                              try simp only [nth_gi, nth_row] at hb9
                              refine r_skip ?_
                              refine k_block ?_
                              refine k_seq ?_
                              refine q_region hG ?_ ?_ -- R35
                              · first | trivial | omega | (simp; done) | (simp; omega)
                              show ∃ z, _
                              simp only [ml0, ml1, Nat.reduceLT, Nat.reduceEqDiff, Nat.reduceAdd, Nat.reduceMul, Nat.reduceSub, Nat.reduceLeDiff, Nat.reduceBEq, Nat.reduceBNe, reduceIte, reduceDIte, reduceCtorEq]
                              exact ⟨w + 1, by rw [wi (by omega) (by omega)]; simp, by omega, by omega⟩
                      · intro hb7
                        try simp only [decide_eq_true_eq, decide_eq_false_iff_not, beq_eq_false_iff_ne, bne_eq_false_iff_eq, Bool.not_eq_false', Bool.and_eq_false_imp] at hb7
                        try simp only [nth_gi, nth_row] at hb7
                        refine r_exit ?_
                        refine k_seq_exit ?_
                        refine k_round_exit ?_
                        refine k_block_exit ?_
                        refine k_seq ?_
                        refine q_region hG ?_ ?_ -- R36
                        · try simp only [and_true, true_and]
                          omega
                        refine k_block ?_
                        refine k_seq ?_
                        refine q_region hG ?_ ?_ -- R37
                        · first | trivial | omega | (simp; done) | (simp; omega)
                        show ∃ z, _
                        simp only [ml0, ml1, Nat.reduceLT, Nat.reduceEqDiff, Nat.reduceAdd, Nat.reduceMul, Nat.reduceSub, Nat.reduceLeDiff, Nat.reduceBEq, Nat.reduceBNe, reduceIte, reduceDIte, reduceCtorEq]
                        exact ⟨k + 1, by rw [wi (by omega) (by omega)]; simp, put_ok hv hl b2 b5, by omega, by omega⟩
                · intro hb5
                  try simp only [decide_eq_true_eq, decide_eq_false_iff_not, beq_eq_false_iff_ne, bne_eq_false_iff_eq, Bool.not_eq_false', Bool.and_eq_false_imp] at hb5
                  try simp only [nth_gi, nth_row] at hb5
                  refine r_exit ?_
                  refine k_seq_exit ?_
                  refine k_round_exit ?_
                  refine k_block_exit ?_
                  refine k_seq ?_
                  refine r_seq ?_
                  refine q_region hG ?_ ?_ -- R38
                  · first | trivial | omega | (simp; done) | (simp; omega)
                  refine k_seq ?_
                  refine r_ret ?_
                  refine ⟨[], ?_⟩
                  simp only [hT, tab7, mr0, mr1, mr2, isNilP, Nat.reduceLT, Nat.reduceEqDiff, Nat.reduceAdd, Nat.reduceMul, Nat.reduceSub, Nat.reduceLeDiff, Nat.reduceBEq, Nat.reduceBNe, reduceIte, reduceDIte, reduceCtorEq]

end Go.Proofs.YtcopdikdkkdlfaaDoor
end

section
/- The law GraphOrders: its row, its card. -/
namespace Go.Proofs.YtcopdikdkkdlfaaDoor.graphOrders
open Go Go.Cm Go.Cm.Gr Go.Proofs Go.ChangeShapes Go.WideShapes Go.ChangeAt Go.RowKit Go.Deep Go.Joins
set_option maxRecDepth 100000

theorem own : ownKnob Tryd.prog.godebug = none := by kernel_rfl
theorem rets : Tryd.f7.resultTypes = #[4] := by kernel_rfl
theorem bools : Tryd.prog.underlying 4 = some .bool := by kernel_rfl
def tys : List Ty := [(.st (.pair (.int .u8) (.pair (.slice (.arr 2 (.int .u8))) .bool)))]
theorem reads : rdAll Tryd.prog tys Tryd.f7.params.toList = true := by kernel_rfl
theorem spec : TrueSpec Rows.graphOrdersSpec tys.length := ⟨rfl, fun _ ds h => match ds, h with | [a0], _ => rfl⟩
abbrev vals : Array Value := #[.agg #[.int .u8 0, .slice none 0 0, .bool false]]
theorem met (os : Os) : laidMet Tryd.prog Rows.graphOrdersRow.laid ((lawWorld os).forCall (fun _ _ => 0) ⟨#[], vals, []⟩).memory :=
  laidMet_of_run3 8 (by kernel_rfl) (by kernel_rfl) (by kernel_rfl)
theorem witness (os : Os) {H : Type} (enc : TypeId × Value → H) : ∃ places, DataW.whole enc Tryd.prog ((lawWorld os).forCall (fun _ _ => 0) ⟨#[], vals, []⟩).memory Tryd.f7.params.toList Rows.graphOrdersSpec.vars false vals.toList 8 = some ([.agg [.lit (.int .u8 0), .nil, .lit (.bool false)]], [], places) :=
  ⟨[], by kernel_rfl⟩
theorem tabs {W : World} (h : laidMetH Tryd.prog Rows.graphOrdersRow.laid W) : Tabs (lawBase W) := by
  have hL : laidMet Tryd.prog Rows.graphOrdersRow.laid W := h
  exact fun w hw => ctz_tab hL w hw

theorem lifted (os : Os) (started : os.Started) (H : Type) (enc : TypeId × Value → H) (F : Stop.Interp) :
    ReturnsInHanded {} Tryd.checked os 7 .any ((OpenSpec.ofChange Rows.graphOrdersSpec).preRow enc Tryd.prog Tryd.f7 Rows.graphOrdersRow.domain false Rows.graphOrdersRow.laid) (((OpenSpec.ofChange Rows.graphOrdersSpec).at F).post enc Tryd.prog Tryd.f7 false true false false) := by
  obtain ⟨places, hx⟩ := witness os enc
  refine returnsInHanded_of_row (C := Tryd.checked) (s := OpenSpec.ofChange Rows.graphOrdersSpec) own started (by kernel_rfl) Tryd.func7
    (witness_row_at (enc := enc) (C := Tryd.checked) false (lawWorld os) vals rfl (by kernel_rfl) (by kernel_rfl) (by kernel_rfl)
      (OpenSpec.preRow_of_cond 8 hx (by kernel_rfl) (fun k hk => by cases hk) (by kernel_rfl) (met os))) ?_
  intro W base args ds gs before hval hW _ _ _ hL _ _
  exact row_contract (ts := tys) (con := cOrders) reads rets bools spec (fun x h => by obtain ⟨x0, ⟨⟩⟩ := x; obtain ⟨h0, -⟩ := h; exact ⟨_, rfl, draft_of h0⟩) (valid7 (tabs hL)) hval hW

theorem said : Rows.GraphOrdersSaid :=
  OpenClaim.holds_of_cond 7 Tryd.f7 rfl rfl rfl rfl rfl rfl rfl ⟨rfl, rfl, rfl, rfl, rfl⟩ rfl rfl rfl rfl rfl (by kernel_rfl) Tryd.func7 (by kernel_rfl)
    (of_decide_eq_true (by kernel_rfl)) (by unfold Func.isWrapper; first | (rw [if_pos (by decide +kernel)]; kernel_rfl) | (rw [if_neg (by decide +kernel)]; exact ⟨rfl, rfl⟩))
    (fun os started H enc _ F => by rw [OpenClaim.pre_eq_preRow]; exact lifted os started H enc F)

theorem plain (f : FuncId) (fn : Func) (hf : Tryd.pinned.checked.prog.funcNamed "croupier/croupierlaw08.GraphOrders" = some f) (hfn : Tryd.pinned.checked.prog.funcs[f]? = some fn) :
    false = Tryd.pinned.checked.prog.looks [] ∧ ∀ (j : Nat) t, fn.params[j]? = some t → Tryd.pinned.checked.prog.wantsStandIn t = false := by
  obtain rfl : f = 7 := Option.some.inj ((show Tryd.prog.funcNamed "croupier/croupierlaw08.GraphOrders" = some 7 by kernel_rfl).symm.trans hf) |>.symm
  obtain rfl : fn = Tryd.f7 := (Option.some.inj (Tryd.func7.symm.trans hfn)).symm
  refine ⟨by kernel_rfl, fun j t ht => ?_⟩
  have hall : Tryd.f7.params.toList.all (fun t => !Tryd.prog.wantsStandIn t) = true := by kernel_rfl
  have := List.all_eq_true.1 hall t (by simpa using Array.mem_of_getElem? ht)
  exact (by simpa using this : Tryd.prog.wantsStandIn t = false)

theorem card : Rows.GraphOrdersCardSaid :=
  Claim7.holds_tied_plain_at .later [] _ _ _ _ said (fun _ h => by cases h) (by kernel_rfl) (fun _ h => by cases h) graphOrders_row_tie rfl ⟨rfl, rfl⟩ (by kernel_rfl) rfl plain (by kernel_rfl)

end Go.Proofs.YtcopdikdkkdlfaaDoor.graphOrders
end
