/- GraphParts: the whole card, with no condition. -/
import Derived.Test.YtcopdikdkkdlfaaDoorQ4
import Derived.Test.YtcopdikdkkdlfaaDoorQ3
import Derived.Test.YtcopdikdkkdlfaaDoorProg
import Derived.Test.YtcopdikdkkdlfaaDoorQ5
import Derived.WalkKit
set_option linter.all false
set_option linter.unusedSimpArgs false
set_option linter.unusedVariables false

section
/- What the laws ask, in plain words. No program is in sight. -/
namespace Go.Cm.Gr
open Go.Cm
theorem shr_fit {m n : Nat} (h : m < 2 ^ n) (hn : n ≤ 32) : ((m : Int)).fdiv (2 ^ (min ((n : Int)).toNat IntKind.u64.bits)) = 0 := by
  rw [Int.toNat_natCast, shr64 (by omega), shr_zero.2 h]; rfl
theorem one_raw {v : Nat} (hv : v < 32) : IntKind.u64.wrap (1 * 2 ^ (min ((v : Int)).toNat IntKind.u64.bits)) = ((1 <<< v : Nat) : Int) := by
  rw [Int.toNat_natCast, shl1 (by omega)]
theorem one_ok {g : Gph} (hg : Val g) {v : Nat} (hv : v < g.length) : U64 (IntKind.u64.wrap (1 * 2 ^ (min ((v : Int)).toNat IntKind.u64.bits))) ∧ (IntKind.u64.wrap (1 * 2 ^ (min ((v : Int)).toNat IntKind.u64.bits))).toNat < 2 ^ g.length := by
  have := hg.most
  rw [one_raw (by omega), Int.toNat_natCast]
  exact ⟨u64_nat (one_lt32 (by omega)), one_lt hv⟩
theorem bit_is {m v : Nat} (hm : m < 2 ^ 64) (hv : v ≤ 64) : IntKind.u64.wrap ((BitVec.ofInt IntKind.u64.bits (((m : Int)).fdiv (2 ^ (min ((v : Int)).toNat IntKind.u64.bits))) &&& BitVec.ofInt IntKind.u64.bits 1).toNat : Int) = if m.testBit v = true then 1 else 0 := by
  rw [Int.toNat_natCast]; exact bit64 hm hv
theorem bit_eq1 {m v : Nat} (hm : m < 2 ^ 64) (hv : v ≤ 64) : (IntKind.u64.wrap ((BitVec.ofInt IntKind.u64.bits (((m : Int)).fdiv (2 ^ (min ((v : Int)).toNat IntKind.u64.bits))) &&& BitVec.ofInt IntKind.u64.bits 1).toNat : Int) == 1) = m.testBit v := by
  rw [bit_is hm hv]; cases m.testBit v <;> rfl
theorem bit_eq0 {m v : Nat} (hm : m < 2 ^ 64) (hv : v ≤ 64) : (IntKind.u64.wrap ((BitVec.ofInt IntKind.u64.bits (((m : Int)).fdiv (2 ^ (min ((v : Int)).toNat IntKind.u64.bits))) &&& BitVec.ofInt IntKind.u64.bits 1).toNat : Int) == 0) = !m.testBit v := by
  rw [bit_is hm hv]; cases m.testBit v <;> rfl
theorem back_lt {g : Gph} (s : Nat) : back g s < 2 ^ g.length := mask_lt _ _
theorem lt64 {g : Gph} (hg : Val g) {s : Nat} (hs : s < 2 ^ g.length) : s < 2 ^ 64 := Nat.lt_trans (lt32 hg hs) (by decide)
theorem turn_eq {g : Gph} (hg : Val g) {s v : Nat} (hs : s < 2 ^ g.length) (hv : v < g.length) : (IntKind.u64.wrap ((BitVec.ofInt IntKind.u64.bits (reach g (IntKind.u64.wrap (1 * 2 ^ (min ((v : Int)).toNat IntKind.u64.bits))).toNat : Int) &&& BitVec.ofInt IntKind.u64.bits (s : Int)).toNat : Int) != 0) = (IntKind.u64.wrap ((BitVec.ofInt IntKind.u64.bits (((back g s : Nat) : Int).fdiv (2 ^ (min ((v : Int)).toNat IntKind.u64.bits))) &&& BitVec.ofInt IntKind.u64.bits 1).toNat : Int) == 1) := by
  have := hg.most
  rw [bit_eq1 (lt64 hg (back_lt s)) (by omega), one_raw (by omega), Int.toNat_natCast]
  have h := hits_iff hg (u64_nat (lt32 hg hs)) hv
  rw [Int.toNat_natCast] at h
  have hb : (back g s).testBit v = hits g s v := by
    rw [← back_mask, mask_bit]; simp [hv]
  rw [hb]
  cases hh : hits g s v with
  | false => rw [h.2 hh]; rfl
  | true =>
    rw [bne_iff_ne]
    intro e
    rw [h.1 e] at hh; cases hh
end Go.Cm.Gr
end

section
/- GraphParts in plain words. No program is in sight. -/
namespace Go.Cm.Gr
open Go.Cm
/-- The nodes of the first sets of a list. -/
def unK (l : List Int) (k : Nat) : Nat := (l.take k).foldl (fun a p => a ||| p.toNat) 0
theorem foldl_un (i : Nat) : ∀ (l : List Int) (a : Nat), (l.foldl (fun a p => a ||| p.toNat) a).testBit i = (a.testBit i || l.any fun p => p.toNat.testBit i)
  | [], a => by simp
  | x :: l, a => by rw [List.foldl_cons, foldl_un i l, Nat.testBit_or, List.any_cons, Bool.or_assoc]
theorem un_bit {l : List Int} {k i : Nat} : (unK l k).testBit i = (l.take k).any fun p => p.toNat.testBit i := by
  unfold unK; rw [foldl_un]; simp
theorem un_zero (l : List Int) : unK l 0 = 0 := rfl
theorem un_succ {l : List Int} {k : Nat} (h : k < l.length) : unK l (k + 1) = unK l k ||| (gi l k).toNat := by
  unfold unK; rw [take_snoc h, List.foldl_append, gi_at h]; rfl
theorem un_lt {l : List Int} {n : Nat} (h : ∀ p ∈ l, p.toNat < 2 ^ n) (k : Nat) : unK l k < 2 ^ n := by
  refine foldl_lt (fun a p hp ha => ?_) (Nat.pow_pos (by omega))
  exact or_lt ha (h p (List.mem_of_mem_take hp))
theorem parts_bound {g : Gph} (hg : Val g) : ∀ p ∈ partsG g, p.toNat < 2 ^ g.length := fun p hp => by
  obtain ⟨r, hr, rfl⟩ := (mem_parts hg).1 hp
  rw [Int.toNat_natCast]; exact scc_lt hg hr
theorem bot_bound {g : Gph} (hg : Val g) : ∀ p ∈ botG g, p.toNat < 2 ^ g.length := fun p hp => parts_bound hg p (List.mem_filter.1 hp).1
theorem parts_ctz {g : Gph} (hg : Val g) {i j : Nat} (hi : i < j) (hj : j < (partsG g).length) : Lib.ctz 64 (gi (partsG g) i).toNat < Lib.ctz 64 (gi (partsG g) j).toNat := by
  have := List.pairwise_iff_getElem.1 (parts_up hg) i j (by omega) hj hi
  rw [gi_at (by omega), gi_at hj]; exact this
theorem parts_dis {g : Gph} (hg : Val g) {k : Nat} (hk : k < (partsG g).length) : (gi (partsG g) k).toNat &&& unK (partsG g) k = 0 := by
  refine Nat.eq_of_testBit_eq fun i => ?_
  rw [Nat.testBit_and, Nat.zero_testBit, Bool.and_eq_false_iff]
  refine Classical.byContradiction fun hc => ?_
  simp only [not_or, Bool.not_eq_false] at hc
  obtain ⟨h1, h2⟩ := hc
  rw [un_bit, List.any_eq_true] at h2
  obtain ⟨p, hp, h3⟩ := h2
  obtain ⟨j, hj, rfl⟩ := List.mem_iff_getElem.1 hp
  rw [List.length_take] at hj
  rw [List.getElem_take] at h3
  obtain ⟨m, e1, _, r, hr, e3⟩ := part_at hg hk
  obtain ⟨m', e1', _, r', hr', e3'⟩ := part_at hg (k := j) (by omega)
  rw [gi_at (by omega)] at e1'
  rw [e1, Int.toNat_natCast, e3] at h1
  rw [e1', Int.toNat_natCast, e3'] at h3
  have e : scc g r = scc g r' := by rw [(scc_of hg hr h1).2, (scc_of hg hr' h3).2]
  have := parts_ctz hg (i := j) (j := k) (by omega) hk
  rw [gi_at (by omega), e1', e1, Int.toNat_natCast, Int.toNat_natCast, e3, e3', e] at this
  omega
theorem ones_bit {n i : Nat} : (2 ^ n - 1).testBit i = decide (i < n) := Nat.testBit_two_pow_sub_one n i
theorem parts_all {g : Gph} (hg : Val g) : unK (partsG g) (partsG g).length = 2 ^ g.length - 1 := by
  refine Nat.eq_of_testBit_eq fun i => ?_
  rw [ones_bit, un_bit, List.take_of_length_le (Nat.le_refl _), Bool.eq_iff_iff, List.any_eq_true, decide_eq_true_eq]
  constructor
  · rintro ⟨p, hp, hb⟩; exact testBit_lt (parts_bound hg p hp) hb
  · intro hi
    exact ⟨_, (mem_parts hg).2 ⟨i, hi, rfl⟩, by rw [Int.toNat_natCast]; exact scc_self hg hi⟩

/-! some bottom part can be reached -/
def size (g : Gph) (v : Nat) : Nat := (List.range g.length).countP fun i => (reach g (1 <<< v)).testBit i
theorem size_lt {g : Gph} (hg : Val g) {v w : Nat} (hv : v < g.length) (h1 : R g v w) (h2 : ¬ R g w v) : size g w < size g v := by
  have hw := h1.lt hg hv
  unfold size
  refine Nat.lt_of_lt_of_le (?_ : _ < (List.range g.length).countP fun i => (reach g (1 <<< w)).testBit i || decide (i = v)) (List.countP_mono_left fun i _ hi => ?_)
  · have hsp : ∀ l : List Nat, l.Nodup → v ∈ l → (l.countP fun i => (reach g (1 <<< w)).testBit i) < l.countP fun i => (reach g (1 <<< w)).testBit i || decide (i = v) := by
      intro l
      induction l with
      | nil => intro _ h; simp at h
      | cons x l ih =>
        intro hn hm
        rw [List.countP_cons, List.countP_cons]
        rcases List.mem_cons.1 hm with h | h
        · subst h
          have hb : (reach g (1 <<< w)).testBit v = false := by
            cases hb : (reach g (1 <<< w)).testBit v with
            | false => rfl
            | true => exact absurd ((reach1_bit hg hw).1 hb) h2
          have hle : (l.countP fun i => (reach g (1 <<< w)).testBit i) ≤ l.countP fun i => (reach g (1 <<< w)).testBit i || decide (i = v) := List.countP_mono_left fun i _ hi => by simp [hi]
          simp [hb]; omega
        · have := ih (List.nodup_cons.1 hn).2 h
          cases hb : (reach g (1 <<< w)).testBit x
          · simp; split <;> omega
          · simp; omega
    exact hsp _ List.nodup_range (List.mem_range.2 hv)
  · rw [Bool.or_eq_true] at hi
    rcases hi with hi | hi
    · exact (reach1_bit hg hv).2 (h1.trans ((reach1_bit hg hw).1 hi))
    · rw [of_decide_eq_true hi]; exact (reach1_bit hg hv).2 (.refl v)
theorem bot_of {g : Gph} (hg : Val g) {v : Nat} (hv : v < g.length) (h : ∀ w, R g v w → R g w v) : (scc g v : Int) ∈ botG g := by
  refine List.mem_filter.2 ⟨(mem_parts hg).2 ⟨v, hv, rfl⟩, ?_⟩
  unfold isBot
  rw [Int.toNat_natCast, decide_eq_true_eq]
  congr 1
  refine Nat.eq_of_testBit_eq fun i => ?_
  rw [Bool.eq_iff_iff, reach_bit hg (scc_lt hg hv), scc_bit hg hv]
  constructor
  · rintro ⟨u, hu, hr⟩
    have := ((scc_bit hg hv).1 hu).1.trans hr
    exact ⟨this, h i this⟩
  · rintro ⟨h1, h2⟩
    exact ⟨v, scc_self hg hv, h1⟩
theorem to_bot {g : Gph} (hg : Val g) : ∀ n v, v < g.length → size g v ≤ n → ∃ w, w < g.length ∧ R g v w ∧ (scc g w : Int) ∈ botG g := by
  intro n
  induction n with
  | zero =>
    intro v hv hn
    have : 0 < size g v := List.countP_pos_iff.2 ⟨v, List.mem_range.2 hv, (reach1_bit hg hv).2 (.refl v)⟩
    omega
  | succ n ih =>
    intro v hv hn
    by_cases h : ∀ w, R g v w → R g w v
    · exact ⟨v, hv, .refl v, bot_of hg hv h⟩
    · have : ∃ w, R g v w ∧ ¬ R g w v := Classical.byContradiction fun hc => h fun w hw => Classical.byContradiction fun h2 => hc ⟨w, hw, h2⟩
      obtain ⟨w, h1, h2⟩ := this
      have hw := h1.lt hg hv
      obtain ⟨x, hx, h3, h4⟩ := ih w hw (by have := size_lt hg hv h1 h2; omega)
      exact ⟨x, hx, h1.trans h3, h4⟩
theorem ends_back {g : Gph} (hg : Val g) : back g (unK (botG g) (botG g).length) = 2 ^ g.length - 1 := by
  refine Nat.eq_of_testBit_eq fun i => ?_
  rw [ones_bit, Bool.eq_iff_iff, back_bit hg, decide_eq_true_eq]
  refine ⟨fun h => h.1, fun hi => ⟨hi, ?_⟩⟩
  obtain ⟨w, hw, h1, h2⟩ := to_bot hg _ i hi (Nat.le_refl _)
  refine ⟨w, ?_, h1⟩
  rw [un_bit, List.take_of_length_le (Nat.le_refl _), List.any_eq_true]
  exact ⟨_, h2, by rw [Int.toNat_natCast]; exact scc_self hg hw⟩
def lastC (g : Gph) (k : Nat) : Int := if k = 0 then -1 else (Lib.ctz 64 (gi (partsG g) (k - 1)).toNat : Int)
def lowK (g : Gph) (k : Nat) : Int := (((partsG g).take k).filter (isBot g)).length
theorem bot_m6 {g : Gph} (hg : Val g) : (botG g).length ≤ 1000000 := Nat.le_trans (List.length_filter_le _ _) (Nat.le_trans (parts_lims hg).1 (by decide))
theorem un_parts {g : Gph} (hg : Val g) (k : Nat) : unK (partsG g) k < 2 ^ g.length := un_lt (parts_bound hg) k
theorem test13 {g : Gph} (hg : Val g) {k m r : Nat} (hk : k < (partsG g).length) (e : gi (partsG g) k = (m : Int)) (hm : m < 2 ^ g.length) (hr : r < g.length) (hmr : m = scc g r) :
    ((m : Int) == 0 || IntKind.u64.wrap ((BitVec.ofInt IntKind.u64.bits (m : Int) &&& BitVec.ofInt IntKind.u64.bits (unK (partsG g) k : Int)).toNat : Int) != 0 || decide ((Lib.ctz 64 ((m : Int)).toNat : Int) ≤ lastC g k) || ((m : Int)).fdiv (2 ^ (min ((g.length : Int)).toNat IntKind.u64.bits)) != 0) = false := by
  have h1 := and64 (lt64 hg hm) (lt64 hg (un_parts hg k))
  have h2 := parts_dis hg hk
  rw [e, Int.toNat_natCast] at h2
  have h3 := shr_fit hm hg.most
  have h4 : m ≠ 0 := by rw [hmr]; exact scc_ne hg hr
  have h5 : ¬ (Lib.ctz 64 m : Int) ≤ lastC g k := by
    unfold lastC
    split
    · omega
    · have := parts_ctz hg (i := k - 1) (j := k) (by omega) hk
      rw [e, Int.toNat_natCast] at this
      omega
  rw [h1, h2, h3, Int.toNat_natCast, decide_eq_false h5]
  simp; omega
theorem or_next {g : Gph} (hg : Val g) {k m : Nat} (hk : k < (partsG g).length) (e : gi (partsG g) k = (m : Int)) (hm : m < 2 ^ g.length) : IntKind.u64.wrap ((BitVec.ofInt IntKind.u64.bits (unK (partsG g) k : Int) ||| BitVec.ofInt IntKind.u64.bits (m : Int)).toNat : Int) = (unK (partsG g) (k + 1) : Int) := by
  rw [or64 (lt64 hg (un_parts hg k)) (lt64 hg hm), un_succ hk, e, Int.toNat_natCast]
theorem mem_bit {m v : Nat} (hm : m < 2 ^ 64) (hv : v ≤ 64) (h : IntKind.u64.wrap ((BitVec.ofInt IntKind.u64.bits (((m : Int)).fdiv (2 ^ (min ((v : Int)).toNat IntKind.u64.bits))) &&& BitVec.ofInt IntKind.u64.bits 1).toNat : Int) ≠ 0) : m.testBit v = true := by
  rw [bit_is hm hv] at h
  cases hb : m.testBit v with
  | true => rfl
  | false => rw [hb] at h; simp at h
theorem scc_raw {g : Gph} (hg : Val g) {m v r : Nat} (hv : v < g.length) (hr : r < g.length) (hmr : m = scc g r) (hb : m.testBit v = true) : IntKind.u64.wrap ((BitVec.ofInt IntKind.u64.bits (reach g (IntKind.u64.wrap (1 * 2 ^ (min ((v : Int)).toNat IntKind.u64.bits))).toNat : Int) &&& BitVec.ofInt IntKind.u64.bits (back g (IntKind.u64.wrap (1 * 2 ^ (min ((v : Int)).toNat IntKind.u64.bits))).toNat : Int)).toNat : Int) = (m : Int) := by
  have := hg.most
  rw [one_raw (by omega), Int.toNat_natCast, part_eq hg hv]
  rw [hmr] at hb ⊢
  rw [(scc_of hg hr hb).2]
theorem low_is {g : Gph} (hg : Val g) {m r : Nat} (hr : r < g.length) (hmr : m = scc g r) : (botG g).contains (m : Int) = ((reach g ((m : Int)).toNat : Int) == (m : Int)) := by
  rw [Bool.eq_iff_iff, List.contains_eq_mem, decide_eq_true_eq, beq_iff_eq]
  unfold botG
  rw [List.mem_filter]
  have hm : (m : Int) ∈ partsG g := (mem_parts hg).2 ⟨r, hr, by rw [hmr]⟩
  unfold isBot
  rw [decide_eq_true_eq]
  exact ⟨fun h => h.2, fun h => ⟨hm, h⟩⟩
theorem low_eq {g : Gph} (hg : Val g) {k m r : Nat} (hk : k < (partsG g).length) (e : gi (partsG g) k = (m : Int)) (hr : r < g.length) (hmr : m = scc g r) : lowK g (k + 1) = if (botG g).contains (m : Int) = true then lowK g k + 1 else lowK g k := by
  have hb : (botG g).contains (m : Int) = isBot g (m : Int) := by
    rw [low_is hg hr hmr]; unfold isBot; rw [Bool.eq_iff_iff, beq_iff_eq, decide_eq_true_eq]
  rw [hb, ← e]
  unfold lowK
  cases h : isBot g (gi (partsG g) k) with
  | true => rw [filter_t hk h, List.length_append]; simp
  | false => rw [filter_f hk h]; simp
theorem low_lim {g : Gph} (hg : Val g) (k : Nat) : 0 ≤ lowK g k ∧ lowK g k ≤ 32 := by
  unfold lowK
  have := (parts_lims hg).1
  have := filter_len (p := isBot g) (l := partsG g) (k := k)
  omega
theorem last_next {g : Gph} {k m : Nat} (e : gi (partsG g) k = (m : Int)) : (Lib.ctz 64 m : Int) = lastC g (k + 1) := by
  unfold lastC
  rw [if_neg (by omega), Nat.add_sub_cancel, e, Int.toNat_natCast]
theorem bot_at {g : Gph} (hg : Val g) {j : Nat} (hj : j < (botG g).length) : ∃ m : Nat, gi (botG g) j = m ∧ m < 2 ^ g.length := by
  have h := bot_bound hg _ (gi_mem hj)
  obtain ⟨r, hr, e⟩ := (mem_parts hg).1 (List.mem_filter.1 (gi_mem hj)).1
  exact ⟨scc g r, e, scc_lt hg hr⟩
theorem bot_u64 {g : Gph} (hg : Val g) {j : Nat} (hj : j < (botG g).length) : U64 (gi (botG g) j) := by
  obtain ⟨m, e, hm⟩ := bot_at hg hj
  rw [e]; exact u64_nat (lt32 hg hm)
theorem bot_prev {j n : Nat} (hj : (0 : Int) < j) (hn : j < n) (h : n ≤ 1000) : ∃ i : Nat, IntKind.i64.wrap ((j : Int) - 1) = (i : Int) ∧ i < j := by
  refine ⟨j - 1, ?_, by omega⟩
  rw [wi (by omega) (by omega)]; omega
theorem bot_up {g : Gph} (hg : Val g) {i j : Nat} (hi : i < j) (hj : j < (botG g).length) : Lib.ctz 64 (gi (botG g) i).toNat < Lib.ctz 64 (gi (botG g) j).toNat := by
  have h : (botG g).Pairwise fun a b => ctzI a < ctzI b := (parts_up hg).filter _
  have := List.pairwise_iff_getElem.1 h i j (by omega) hj hi
  rw [gi_at (by omega), gi_at hj]; exact this
theorem or_bot {g : Gph} (hg : Val g) {j : Nat} (hj : j < (botG g).length) : IntKind.u64.wrap ((BitVec.ofInt IntKind.u64.bits (unK (botG g) j : Int) ||| BitVec.ofInt IntKind.u64.bits (gi (botG g) j)).toNat : Int) = (unK (botG g) (j + 1) : Int) := by
  obtain ⟨m, e, hm⟩ := bot_at hg hj
  rw [un_succ hj, e, or64 (lt64 hg (un_lt (bot_bound hg) j)) (lt64 hg hm), Int.toNat_natCast]
theorem bot_small {g : Gph} (hg : Val g) : (botG g).length ≤ 1000 := Nat.le_trans (List.length_filter_le _ _) (Nat.le_trans (parts_lims hg).1 (by decide))
theorem parts_end {g : Gph} (hg : Val g) {j : Nat} (hj : j = (botG g).length) : ((unK (partsG g) (partsG g).length : Int) == IntKind.u64.wrap (IntKind.u64.wrap (1 * 2 ^ (min ((g.length : Int)).toNat IntKind.u64.bits)) - 1) && lowK g (partsG g).length == ((botG g).length : Int) && (back g ((unK (botG g) j : Nat) : Int).toNat : Int) == (unK (partsG g) (partsG g).length : Int)) = true := by
  have := hg.most
  have hp : (0 : Nat) < 2 ^ g.length := Nat.pow_pos (by omega)
  have hp2 : (2 : Nat) ^ g.length ≤ 2 ^ 32 := Nat.pow_le_pow_right (by decide) (by omega)
  have e1 : IntKind.u64.wrap (1 * 2 ^ (min ((g.length : Int)).toNat IntKind.u64.bits)) = ((2 ^ g.length : Nat) : Int) := by
    rw [Int.toNat_natCast, shl1 (by omega), Nat.one_shiftLeft]
  rw [e1, hj, Int.toNat_natCast, ends_back hg, parts_all hg, w64 (by omega) (by omega)]
  have e2 : lowK g (partsG g).length = ((botG g).length : Int) := by
    unfold lowK; rw [List.take_of_length_le (Nat.le_refl _)]; rfl
  have e3 : ((2 ^ g.length : Nat) : Int) - 1 = ((2 ^ g.length - 1 : Nat) : Int) := by omega
  rw [e2, e3]
  simp only [beq_self_eq_true, Bool.and_self]
end Go.Cm.Gr
end

section
/- The functions of the package graph, one after the other: each meets its contract. -/
set_option linter.unusedSimpArgs false
set_option linter.unusedVariables false
set_option maxRecDepth 100000
namespace Go.Proofs.YtcopdikdkkdlfaaDoor
open Go Go.Cm Go.Cm.Gr Go.Proofs

def tab6 (B : Base) : Tab := { types := [(3, (.int .i64)), (4, .bool), (24, (.st (.pair (.int .u8) (.pair (.slice (.arr 2 (.int .u8))) .bool)))), (27, (.slice (.slice (.int .i64)))), (29, (.int .u64)), (30, (.int .u64)), (32, (.int .i64)), (37, (.slice (.int .u64)))], elems := [], cons := [(10, cWorks), (11, cDraft), (13, cBackV), (14, cReachV), (15, cPartsV), (16, cBottomV), (22, cCtz), (23, cHasU)], hint := [], N := 190, base := B }
theorem good6 {B : Base} (hB : Tabs B) : MGood Tryd.prog (tab6 B) := ⟨⟨types_cons ty3 (types_cons ty4 (types_cons ty24 (types_cons ty27 (types_cons ty29 (types_cons ty30 (types_cons ty32 (types_cons ty37 (types_nil)))))))), elems_nil, by simp only [tab6, ioB]; omega⟩, cons_ok (cals_cons (cal_ok Tryd.func10 (by kernel_rfl) rfl (valid10 hB)) (cals_cons (cal_ok Tryd.func11 (by kernel_rfl) rfl (valid11 hB)) (cals_cons (cal_ok Tryd.func13 (by kernel_rfl) rfl (valid13v hB)) (cals_cons (cal_ok Tryd.func14 (by kernel_rfl) rfl (valid14v hB)) (cals_cons (cal_ok Tryd.func15 (by kernel_rfl) rfl (valid15v hB)) (cals_cons (cal_ok Tryd.func16 (by kernel_rfl) rfl (valid16v hB)) (cals_cons (cal_ok Tryd.func22 (by kernel_rfl) rfl (valid22 hB)) (cals_cons (cal_ok Tryd.func23 (by kernel_rfl) rfl (valid23 hB)) (cals_nil))))))))), by kernel_rfl⟩
def cPartsL : Con := fun l os => match l, os with
  | [.z (.st (.pair (.int .u8) (.pair (.slice (.arr 2 (.int .u8))) .bool))) d], [] => some (Dok d, [.z .bool true], [])
  | _, _ => none

set_option maxHeartbeats 2000000 in
theorem valid6 {B : Base} (hB : Tabs B) : Valid B Tryd.prog 6 cPartsL := by
  refine valid_of_J (T := tab6 B) (good6 hB).tab Tryd.func6 rfl rfl rfl ?_
  intro args os C rs os' hc hC
  unfold cPartsL at hc
  split at hc
  case h_2 => cases hc
  rename_i d
  cases hc
  refine ⟨by simp only [List.length_cons, List.length_nil, tab6]; omega, rfl, ?_⟩
  intro X hP hT hr
  have hG : MGood X.P X.T := by rw [hP, hT]; exact good6 hB
  unfold tab6 at hT
  have hX := And.intro (@cBackV.eq_1) <| And.intro (@cBottomV.eq_1) <| And.intro (@cCtz.eq_1) <| And.intro (@cDraft.eq_1) <| And.intro (@cHasU.eq_1) <| And.intro (@cPartsV.eq_1) <| And.intro (@cReachV.eq_1) <| @cWorks.eq_1
  simp only [Tryd.f6, argEnv, ioList, ioB]
  refine r_seq ?_
  have hv := draft_val d
  have n1 := hv.one
  have n2 := hv.most
  refine q_region hG ?_ ?_ -- R0
  · first | trivial | omega | (simp; done) | (simp; omega)
  refine k_seq ?_
  refine r_seq ?_
  refine r_seq ?_
  refine q_region hG ?_ ?_ -- R1
  · first | trivial | omega | (simp; done) | (simp; omega)
  refine k_seq ?_
  refine q_cond ?_ ?_
  · intro hb0
    cases hb0
  · intro hb0
    try simp only [decide_eq_true_eq, decide_eq_false_iff_not, beq_eq_false_iff_ne, bne_eq_false_iff_eq, Bool.not_eq_false', Bool.and_eq_false_imp] at hb0
    try simp only [nth_gi, nth_row] at hb0
    refine r_skip ?_
    refine k_seq ?_
    refine r_seq ?_
    refine q_region hG ?_ ?_ -- R3
    · try simp only [and_true, true_and]
      exact hC
    refine k_seq ?_
    refine r_seq ?_
    refine q_region hG ?_ ?_ -- R4
    · try simp only [and_true, true_and]
      exact hv
    refine k_seq ?_
    refine r_seq ?_
    refine q_region hG ?_ ?_ -- R5
    · try simp only [and_true, true_and]
      exact hv
    refine k_seq ?_
    refine r_seq ?_
    refine r_seq ?_
    refine q_region hG ?_ ?_ -- R6
    · first | trivial | omega | (simp; done) | (simp; omega)
    refine k_seq ?_
    refine q_cond ?_ ?_
    · intro hb1
      cases hb1
    · intro hb1
      try simp only [decide_eq_true_eq, decide_eq_false_iff_not, beq_eq_false_iff_ne, bne_eq_false_iff_eq, Bool.not_eq_false', Bool.and_eq_false_imp] at hb1
      try simp only [nth_gi, nth_row] at hb1
      refine r_skip ?_
      refine k_seq ?_
      refine r_seq ?_
      refine q_region hG ?_ ?_ -- R8
      · first | trivial | omega | (simp; done) | (simp; omega)
      refine k_seq ?_
      refine r_seq ?_
      refine r_seq ?_
      refine q_region hG ?_ ?_ -- R9
      · first | trivial | omega | (simp; done) | (simp; omega)
      refine k_seq ?_
      refine j_block ?_
      refine j_loop (fun (z : Nat) => (⟨[(2, .l (.z .bool false)), (3, .l (.z (.slice (.slice (.int .i64))) (gD d))), (4, .l (.z (.slice (.int .u64)) (partsG (gD d)))), (6, .l (.z (.slice (.int .u64)) (botG (gD d)))), (47, .l (.z (.slice (.int .u64)) (partsG (gD d)))), (48, .l (.z (.int .i64) ((partsG (gD d)).length : Int))), (49, .l (.z (.int .i64) (z : Int))), (8, .l (.z (.int .u64) (unK (partsG (gD d)) z : Int))), (9, .l (.z (.int .i64) (lastC (gD d) z))), (10, .l (.z (.int .i64) (lowK (gD d) z)))], []⟩ : AState)) (fun z => z ≤ (partsG (gD d)).length) (fun z => (partsG (gD d)).length - z) 0 ?_ ?_ ?_
      · simp only [ml0, ml1, Nat.reduceLT, Nat.reduceEqDiff, Nat.reduceAdd, Nat.reduceMul, Nat.reduceSub, Nat.reduceLeDiff, Nat.reduceBEq, Nat.reduceBNe, reduceIte, reduceDIte, reduceCtorEq]
        exact ⟨rfl, rfl, rfl, rfl⟩
      · omega
      · rintro k g1
        try dsimp only at g1
        have lp := (parts_lims hv).1
        refine r_seq ?_
        refine q_region hG ?_ ?_ -- R10
        · first | trivial | omega | (simp; done) | (simp; omega)
        refine k_seq ?_
        refine r_seq ?_
        refine q_cond ?_ ?_
        · intro hb2
          try simp only [decide_eq_true_eq, decide_eq_false_iff_not, beq_iff_eq, bne_iff_ne, Bool.not_eq_true', Bool.and_eq_true] at hb2
          try simp only [nth_gi, nth_row] at hb2
          refine r_skip ?_
          refine k_seq ?_
          refine r_seq ?_
          refine j_block ?_
          refine r_seq ?_
          refine q_region hG ?_ ?_ -- R11
          · try simp only [and_true, true_and]
            omega
          refine k_seq ?_
          refine r_seq ?_
          have hk : k < (partsG (gD d)).length := by have h : (k : Int) < ((partsG (gD d)).length : Int) := hb2; omega
          obtain ⟨m, e1, e2, r, hr, e3⟩ := part_at hv hk
          simp only [nth_gi, e1]
          have m64 := lt64 hv e2
          refine q_region hG ?_ ?_ -- R12
          · try simp only [and_true, true_and]
            exact u64_nat (lt32 hv e2)
          refine k_seq ?_
          refine r_seq ?_
          refine r_seq ?_
          refine q_region hG ?_ ?_ -- R13
          · try simp only [and_true, true_and]
            (repeat' (first | apply And.intro | intro _)) <;> first | assumption | omega | (rename_i h; rw [h]; rfl) | (rename_i h1 h2; rw [h1, h2]; rfl)
          refine k_seq ?_
          refine q_cond ?_ ?_
          · intro hb3
            exact absurd hb3 (Bool.eq_false_iff.1 (test13 hv hk e1 e2 hr e3))
          · intro hb3
            try simp only [decide_eq_true_eq, decide_eq_false_iff_not, beq_eq_false_iff_ne, bne_eq_false_iff_eq, Bool.not_eq_false', Bool.and_eq_false_imp] at hb3
            try simp only [nth_gi, nth_row] at hb3
            clear hb3
            refine r_skip ?_
            refine k_seq ?_
            refine r_seq ?_
            refine q_region hG ?_ ?_ -- R15
            · first | trivial | omega | (simp; done) | (simp; omega)
            refine k_seq ?_
            refine r_seq ?_
            refine r_seq ?_
            refine q_region hG ?_ ?_ -- R16
            · first | trivial | omega | (simp; done) | (simp; omega)
            refine k_seq ?_
            refine j_block ?_
            refine j_loop (fun (z : Nat) => (⟨[(2, .l (.z .bool false)), (3, .l (.z (.slice (.slice (.int .i64))) (gD d))), (4, .l (.z (.slice (.int .u64)) (partsG (gD d)))), (6, .l (.z (.slice (.int .u64)) (botG (gD d)))), (47, .l (.z (.slice (.int .u64)) (partsG (gD d)))), (48, .l (.z (.int .i64) ((partsG (gD d)).length : Int))), (49, .l (.z (.int .i64) (k : Int))), (8, .l (.z (.int .u64) (unK (partsG (gD d)) (k + 1) : Int))), (9, .l (.z (.int .i64) (Lib.ctz 64 m : Int))), (10, .l (.z (.int .i64) (lowK (gD d) k))), (12, .l (.z (.int .u64) (m : Int))), (79, .l (.z (.slice (.slice (.int .i64))) (gD d))), (80, .l (.z (.int .i64) ((gD d).length : Int))), (81, .l (.z (.int .i64) (z : Int)))], []⟩ : AState)) (fun z => z ≤ (gD d).length) (fun z => (gD d).length - z) 0 ?_ ?_ ?_
            · simp only [ml0, ml1, Nat.reduceLT, Nat.reduceEqDiff, Nat.reduceAdd, Nat.reduceMul, Nat.reduceSub, Nat.reduceLeDiff, Nat.reduceBEq, Nat.reduceBNe, reduceIte, reduceDIte, reduceCtorEq]
              exact ⟨or_next hv hk e1 e2, rfl, rfl⟩
            · omega
            · rintro v g2
              try dsimp only at g2
              refine r_seq ?_
              refine q_region hG ?_ ?_ -- R17
              · first | trivial | omega | (simp; done) | (simp; omega)
              refine k_seq ?_
              refine r_seq ?_
              refine q_cond ?_ ?_
              · intro hb4
                try simp only [decide_eq_true_eq, decide_eq_false_iff_not, beq_iff_eq, bne_iff_ne, Bool.not_eq_true', Bool.and_eq_true] at hb4
                try simp only [nth_gi, nth_row] at hb4
                refine r_skip ?_
                refine k_seq ?_
                refine r_seq ?_
                refine j_block ?_
                refine r_seq ?_
                refine q_region hG ?_ ?_ -- R18
                · first | trivial | omega | (simp; done) | (simp; omega)
                refine k_seq ?_
                refine r_seq ?_
                refine r_seq ?_
                refine q_region hG ?_ ?_ -- R19
                · try simp only [and_true, true_and]
                  omega
                refine k_seq ?_
                refine q_cond ?_ ?_
                · intro hb5
                  try simp only [decide_eq_true_eq, decide_eq_false_iff_not, beq_iff_eq, bne_iff_ne, Bool.not_eq_true', Bool.and_eq_true] at hb5
                  try simp only [nth_gi, nth_row] at hb5
                  refine r_exit ?_
                  refine k_seq_exit ?_
                  refine k_block_exit ?_
                  refine k_seq ?_
                  refine q_region hG ?_ ?_ -- R24
                  · first | trivial | omega | (simp; done) | (simp; omega)
                  show ∃ z, _
                  simp only [ml0, ml1, Nat.reduceLT, Nat.reduceEqDiff, Nat.reduceAdd, Nat.reduceMul, Nat.reduceSub, Nat.reduceLeDiff, Nat.reduceBEq, Nat.reduceBNe, reduceIte, reduceDIte, reduceCtorEq]
                  exact ⟨v + 1, by rw [wi (by omega) (by omega)]; simp, by omega, by omega⟩
                · intro hb5
                  try simp only [decide_eq_true_eq, decide_eq_false_iff_not, beq_eq_false_iff_ne, bne_eq_false_iff_eq, Bool.not_eq_false', Bool.and_eq_false_imp] at hb5
                  try simp only [nth_gi, nth_row] at hb5
                  have hbt := mem_bit m64 (v := v) (by omega) hb5
                  refine r_skip ?_
                  refine k_seq ?_
                  refine r_seq ?_
                  refine q_region hG ?_ ?_ -- R20
                  · try simp only [and_true, true_and]
                    have o := one_ok hv (v := v) (by omega)
                    exact ⟨by omega, hv, o.1, o.2⟩
                  refine k_seq ?_
                  refine r_seq ?_
                  refine q_region hG ?_ ?_ -- R21
                  · try simp only [and_true, true_and]
                    have o := one_ok hv (v := v) (by omega)
                    exact ⟨by omega, hv, o.1, o.2⟩
                  refine k_seq ?_
                  refine r_seq ?_
                  refine q_region hG ?_ ?_ -- R22
                  · first | trivial | omega | (simp; done) | (simp; omega)
                  refine k_seq ?_
                  refine q_cond ?_ ?_
                  · intro hb6
                    exact absurd (scc_raw hv (by omega) hr e3 hbt) (bne_iff_ne.1 hb6)
                  · intro hb6
                    try simp only [decide_eq_true_eq, decide_eq_false_iff_not, beq_eq_false_iff_ne, bne_eq_false_iff_eq, Bool.not_eq_false', Bool.and_eq_false_imp] at hb6
                    try simp only [nth_gi, nth_row] at hb6
                    refine r_skip ?_
                    refine k_block ?_
                    refine k_seq ?_
                    refine q_region hG ?_ ?_ -- R24
                    · first | trivial | omega | (simp; done) | (simp; omega)
                    show ∃ z, _
                    simp only [ml0, ml1, Nat.reduceLT, Nat.reduceEqDiff, Nat.reduceAdd, Nat.reduceMul, Nat.reduceSub, Nat.reduceLeDiff, Nat.reduceBEq, Nat.reduceBNe, reduceIte, reduceDIte, reduceCtorEq]
                    exact ⟨v + 1, by rw [wi (by omega) (by omega)]; simp, by omega, by omega⟩
              · intro hb4
                try simp only [decide_eq_true_eq, decide_eq_false_iff_not, beq_eq_false_iff_ne, bne_eq_false_iff_eq, Bool.not_eq_false', Bool.and_eq_false_imp] at hb4
                try simp only [nth_gi, nth_row] at hb4
                refine r_exit ?_
                refine k_seq_exit ?_
                refine k_round_exit ?_
                refine k_block_exit ?_
                refine k_seq ?_
                refine r_seq ?_
                refine q_region hG ?_ ?_ -- R25
                · try simp only [and_true, true_and]
                  exact ⟨hv, u64_nat (lt32 hv e2), by rw [Int.toNat_natCast]; exact e2⟩
                refine k_seq ?_
                refine r_seq ?_
                refine q_region hG ?_ ?_ -- R26
                · try simp only [and_true, true_and]
                  exact bot_m6 hv
                refine k_seq ?_
                refine r_seq ?_
                refine q_region hG ?_ ?_ -- R27
                · first | trivial | omega | (simp; done) | (simp; omega)
                refine k_seq ?_
                refine q_cond ?_ ?_
                · intro hb7
                  exact absurd (low_is hv hr e3) (bne_iff_ne.1 hb7)
                · intro hb7
                  try simp only [decide_eq_true_eq, decide_eq_false_iff_not, beq_eq_false_iff_ne, bne_eq_false_iff_eq, Bool.not_eq_false', Bool.and_eq_false_imp] at hb7
                  try simp only [nth_gi, nth_row] at hb7
                  refine r_seq ?_
                  refine q_region hG ?_ ?_ -- R29
                  · first | trivial | omega | (simp; done) | (simp; omega)
                  refine k_seq ?_
                  refine q_cond ?_ ?_
                  · intro hb8
                    try simp only [decide_eq_true_eq, decide_eq_false_iff_not, beq_iff_eq, bne_iff_ne, Bool.not_eq_true', Bool.and_eq_true] at hb8
                    try simp only [nth_gi, nth_row] at hb8
                    refine q_region hG ?_ ?_ -- R30
                    · first | trivial | omega | (simp; done) | (simp; omega)
                    refine k_block ?_
                    refine k_seq ?_
                    refine q_region hG ?_ ?_ -- R31
                    · first | trivial | omega | (simp; done) | (simp; omega)
                    show ∃ z, _
                    simp only [ml0, ml1, Nat.reduceLT, Nat.reduceEqDiff, Nat.reduceAdd, Nat.reduceMul, Nat.reduceSub, Nat.reduceLeDiff, Nat.reduceBEq, Nat.reduceBNe, reduceIte, reduceDIte, reduceCtorEq]
                    have hle := low_eq hv hk e1 hr e3
                    have hlm := low_lim hv k
                    first | (rw [if_pos hb8] at hle; exact ⟨k + 1, by rw [wi (by omega) (by omega)]; simp, rfl, last_next e1, by rw [wi (by omega) (by omega), hle], by omega, by omega⟩) | (rw [if_neg (by rw [hb8]; decide)] at hle; exact ⟨k + 1, by rw [wi (by omega) (by omega)]; simp, rfl, last_next e1, hle.symm, by omega, by omega⟩)
                  · intro hb8
                    try simp only [decide_eq_true_eq, decide_eq_false_iff_not, beq_eq_false_iff_ne, bne_eq_false_iff_eq, Bool.not_eq_false', Bool.and_eq_false_imp] at hb8
                    try simp only [nth_gi, nth_row] at hb8
                    refine r_skip ?_
                    refine k_block ?_
                    refine k_seq ?_
                    refine q_region hG ?_ ?_ -- R31
                    · first | trivial | omega | (simp; done) | (simp; omega)
                    show ∃ z, _
                    simp only [ml0, ml1, Nat.reduceLT, Nat.reduceEqDiff, Nat.reduceAdd, Nat.reduceMul, Nat.reduceSub, Nat.reduceLeDiff, Nat.reduceBEq, Nat.reduceBNe, reduceIte, reduceDIte, reduceCtorEq]
                    have hle := low_eq hv hk e1 hr e3
                    have hlm := low_lim hv k
                    first | (rw [if_pos hb8] at hle; exact ⟨k + 1, by rw [wi (by omega) (by omega)]; simp, rfl, last_next e1, by rw [wi (by omega) (by omega), hle], by omega, by omega⟩) | (rw [if_neg (by rw [hb8]; decide)] at hle; exact ⟨k + 1, by rw [wi (by omega) (by omega)]; simp, rfl, last_next e1, hle.symm, by omega, by omega⟩)
        · intro hb2
          try simp only [decide_eq_true_eq, decide_eq_false_iff_not, beq_eq_false_iff_ne, bne_eq_false_iff_eq, Bool.not_eq_false', Bool.and_eq_false_imp] at hb2
          try simp only [nth_gi, nth_row] at hb2
          refine r_exit ?_
          refine k_seq_exit ?_
          refine k_round_exit ?_
          refine k_block_exit ?_
          refine k_seq ?_
          refine r_seq ?_
          refine q_region hG ?_ ?_ -- R32
          · first | trivial | omega | (simp; done) | (simp; omega)
          refine k_seq ?_
          refine r_seq ?_
          refine r_seq ?_
          refine q_region hG ?_ ?_ -- R33
          · first | trivial | omega | (simp; done) | (simp; omega)
          refine k_seq ?_
          refine j_block ?_
          refine j_loop (fun (z : Nat) => (⟨[(2, .l (.z .bool false)), (3, .l (.z (.slice (.slice (.int .i64))) (gD d))), (4, .l (.z (.slice (.int .u64)) (partsG (gD d)))), (6, .l (.z (.slice (.int .u64)) (botG (gD d)))), (8, .l (.z (.int .u64) (unK (partsG (gD d)) (partsG (gD d)).length : Int))), (10, .l (.z (.int .i64) (lowK (gD d) (partsG (gD d)).length))), (139, .l (.z (.slice (.int .u64)) (botG (gD d)))), (140, .l (.z (.int .i64) ((botG (gD d)).length : Int))), (141, .l (.z (.int .i64) (z : Int))), (22, .l (.z (.int .u64) (unK (botG (gD d)) z : Int)))], []⟩ : AState)) (fun z => z ≤ (botG (gD d)).length) (fun z => (botG (gD d)).length - z) 0 ?_ ?_ ?_
          · simp only [ml0, ml1, Nat.reduceLT, Nat.reduceEqDiff, Nat.reduceAdd, Nat.reduceMul, Nat.reduceSub, Nat.reduceLeDiff, Nat.reduceBEq, Nat.reduceBNe, reduceIte, reduceDIte, reduceCtorEq]
            have hk : k = (partsG (gD d)).length := by have h : ¬ (k : Int) < ((partsG (gD d)).length : Int) := hb2; omega
            rw [hk]
            exact ⟨rfl, rfl, rfl, rfl⟩
          · omega
          · rintro j g3
            try dsimp only at g3
            refine r_seq ?_
            refine q_region hG ?_ ?_ -- R34
            · first | trivial | omega | (simp; done) | (simp; omega)
            refine k_seq ?_
            refine r_seq ?_
            refine q_cond ?_ ?_
            · intro hb9
              try simp only [decide_eq_true_eq, decide_eq_false_iff_not, beq_iff_eq, bne_iff_ne, Bool.not_eq_true', Bool.and_eq_true] at hb9
              try simp only [nth_gi, nth_row] at hb9
              refine r_skip ?_
              refine k_seq ?_
              refine r_seq ?_
              refine j_block ?_
              refine r_seq ?_
              refine q_region hG ?_ ?_ -- R35
              · try simp only [and_true, true_and]
                omega
              refine k_seq ?_
              refine r_seq ?_
              refine q_region hG ?_ ?_ -- R36
              · first | trivial | omega | (simp; done) | (simp; omega)
              refine k_seq ?_
              refine r_seq ?_
              refine q_region hG ?_ ?_ -- R37
              · try simp only [and_true, true_and]
                have hj : j < (botG (gD d)).length := by have h : (j : Int) < ((botG (gD d)).length : Int) := hb9; omega
                refine ⟨fun h => h, fun h => ?_, fun h => h, fun h => ?_, fun h => ⟨h, bot_u64 hv hj⟩, fun h => h⟩
                · obtain ⟨i, q1, q2⟩ := bot_prev (of_decide_eq_true h) hj (bot_small hv); rw [q1]; exact ⟨h, by omega, by omega⟩
                · obtain ⟨i, q1, q2⟩ := bot_prev (of_decide_eq_true h) hj (bot_small hv); rw [q1]; exact ⟨h, bot_u64 hv (by omega)⟩
              refine k_seq ?_
              refine q_cond ?_ ?_
              · intro hb10
                have hj : j < (botG (gD d)).length := by have h : (j : Int) < ((botG (gD d)).length : Int) := hb9; omega
                simp only [Bool.and_eq_true, decide_eq_true_eq, nth_gi] at hb10
                obtain ⟨q0, q3⟩ := hb10
                obtain ⟨i, q1, q2⟩ := bot_prev q0 hj (bot_small hv)
                rw [q1, nth_gi] at q3
                exact absurd (bot_up hv q2 hj) (Nat.not_lt.2 (Int.ofNat_le.1 (of_decide_eq_true q3)))
              · intro hb10
                try simp only [decide_eq_true_eq, decide_eq_false_iff_not, beq_eq_false_iff_ne, bne_eq_false_iff_eq, Bool.not_eq_false', Bool.and_eq_false_imp] at hb10
                try simp only [nth_gi, nth_row] at hb10
                refine r_skip ?_
                refine k_block ?_
                refine k_seq ?_
                refine q_region hG ?_ ?_ -- R39
                · first | trivial | omega | (simp; done) | (simp; omega)
                show ∃ z, _
                simp only [ml0, ml1, Nat.reduceLT, Nat.reduceEqDiff, Nat.reduceAdd, Nat.reduceMul, Nat.reduceSub, Nat.reduceLeDiff, Nat.reduceBEq, Nat.reduceBNe, reduceIte, reduceDIte, reduceCtorEq]
                have hj : j < (botG (gD d)).length := by have h : (j : Int) < ((botG (gD d)).length : Int) := hb9; omega
                have hbs := bot_small hv
                exact ⟨j + 1, by rw [wi (by omega) (by omega)]; simp, or_bot hv hj, by omega, by omega⟩
            · intro hb9
              try simp only [decide_eq_true_eq, decide_eq_false_iff_not, beq_eq_false_iff_ne, bne_eq_false_iff_eq, Bool.not_eq_false', Bool.and_eq_false_imp] at hb9
              try simp only [nth_gi, nth_row] at hb9
              refine r_exit ?_
              refine k_seq_exit ?_
              refine k_round_exit ?_
              refine k_block_exit ?_
              refine k_seq ?_
              refine r_seq ?_
              refine q_region hG ?_ ?_ -- R40
              · try simp only [and_true, true_and]
                have hu := un_lt (bot_bound hv) j
                exact ⟨hv, u64_nat (lt32 hv hu), by rw [Int.toNat_natCast]; exact hu⟩
              refine k_seq ?_
              refine r_seq ?_
              refine q_region hG ?_ ?_ -- R41
              · try simp only [and_true, true_and]
                (repeat' (first | apply And.intro | intro _)) <;> first | assumption | omega | (rename_i h; rw [h]; rfl) | (rename_i h1 h2; rw [h1, h2]; rfl)
              refine k_seq ?_
              refine r_ret ?_
              refine ⟨[], ?_⟩
              simp only [hT, tab6, mr0, mr1, mr2, isNilP, Nat.reduceLT, Nat.reduceEqDiff, Nat.reduceAdd, Nat.reduceMul, Nat.reduceSub, Nat.reduceLeDiff, Nat.reduceBEq, Nat.reduceBNe, reduceIte, reduceDIte, reduceCtorEq]
              exact parts_end hv (by have h : ¬ (j : Int) < ((botG (gD d)).length : Int) := hb9; omega)

end Go.Proofs.YtcopdikdkkdlfaaDoor
end

section
/- The law GraphParts: its row, its card. -/
namespace Go.Proofs.YtcopdikdkkdlfaaDoor.graphParts
open Go Go.Cm Go.Cm.Gr Go.Proofs Go.ChangeShapes Go.WideShapes Go.ChangeAt Go.RowKit Go.Deep Go.Joins
set_option maxRecDepth 100000

theorem own : ownKnob Tryd.prog.godebug = none := by kernel_rfl
theorem rets : Tryd.f6.resultTypes = #[4] := by kernel_rfl
theorem bools : Tryd.prog.underlying 4 = some .bool := by kernel_rfl
def tys : List Ty := [(.st (.pair (.int .u8) (.pair (.slice (.arr 2 (.int .u8))) .bool)))]
theorem reads : rdAll Tryd.prog tys Tryd.f6.params.toList = true := by kernel_rfl
theorem spec : TrueSpec Rows.graphPartsSpec tys.length := ⟨rfl, fun _ ds h => match ds, h with | [a0], _ => rfl⟩
abbrev vals : Array Value := #[.agg #[.int .u8 0, .slice none 0 0, .bool false]]
theorem met (os : Os) : laidMet Tryd.prog Rows.graphPartsRow.laid ((lawWorld os).forCall (fun _ _ => 0) ⟨#[], vals, []⟩).memory :=
  laidMet_of_run3 8 (by kernel_rfl) (by kernel_rfl) (by kernel_rfl)
theorem witness (os : Os) {H : Type} (enc : TypeId × Value → H) : ∃ places, DataW.whole enc Tryd.prog ((lawWorld os).forCall (fun _ _ => 0) ⟨#[], vals, []⟩).memory Tryd.f6.params.toList Rows.graphPartsSpec.vars false vals.toList 8 = some ([.agg [.lit (.int .u8 0), .nil, .lit (.bool false)]], [], places) :=
  ⟨[], by kernel_rfl⟩
theorem tabs {W : World} (h : laidMetH Tryd.prog Rows.graphPartsRow.laid W) : Tabs (lawBase W) := by
  have hL : laidMet Tryd.prog Rows.graphPartsRow.laid W := h
  exact fun w hw => ctz_tab hL w hw

theorem lifted (os : Os) (started : os.Started) (H : Type) (enc : TypeId × Value → H) (F : Stop.Interp) :
    ReturnsInHanded {} Tryd.checked os 6 .any ((OpenSpec.ofChange Rows.graphPartsSpec).preRow enc Tryd.prog Tryd.f6 Rows.graphPartsRow.domain false Rows.graphPartsRow.laid) (((OpenSpec.ofChange Rows.graphPartsSpec).at F).post enc Tryd.prog Tryd.f6 false true false false) := by
  obtain ⟨places, hx⟩ := witness os enc
  refine returnsInHanded_of_row (C := Tryd.checked) (s := OpenSpec.ofChange Rows.graphPartsSpec) own started (by kernel_rfl) Tryd.func6
    (witness_row_at (enc := enc) (C := Tryd.checked) false (lawWorld os) vals rfl (by kernel_rfl) (by kernel_rfl) (by kernel_rfl)
      (OpenSpec.preRow_of_cond 8 hx (by kernel_rfl) (fun k hk => by cases hk) (by kernel_rfl) (met os))) ?_
  intro W base args ds gs before hval hW _ _ _ hL _ _
  exact row_contract (ts := tys) (con := cPartsL) reads rets bools spec (fun x h => by obtain ⟨x0, ⟨⟩⟩ := x; obtain ⟨h0, -⟩ := h; exact ⟨_, rfl, draft_of h0⟩) (valid6 (tabs hL)) hval hW

theorem said : Rows.GraphPartsSaid :=
  OpenClaim.holds_of_cond 6 Tryd.f6 rfl rfl rfl rfl rfl rfl rfl ⟨rfl, rfl, rfl, rfl, rfl⟩ rfl rfl rfl rfl rfl (by kernel_rfl) Tryd.func6 (by kernel_rfl)
    (of_decide_eq_true (by kernel_rfl)) (by unfold Func.isWrapper; first | (rw [if_pos (by decide +kernel)]; kernel_rfl) | (rw [if_neg (by decide +kernel)]; exact ⟨rfl, rfl⟩))
    (fun os started H enc _ F => by rw [OpenClaim.pre_eq_preRow]; exact lifted os started H enc F)

theorem plain (f : FuncId) (fn : Func) (hf : Tryd.pinned.checked.prog.funcNamed "croupier/croupierlaw08.GraphParts" = some f) (hfn : Tryd.pinned.checked.prog.funcs[f]? = some fn) :
    false = Tryd.pinned.checked.prog.looks [] ∧ ∀ (j : Nat) t, fn.params[j]? = some t → Tryd.pinned.checked.prog.wantsStandIn t = false := by
  obtain rfl : f = 6 := Option.some.inj ((show Tryd.prog.funcNamed "croupier/croupierlaw08.GraphParts" = some 6 by kernel_rfl).symm.trans hf) |>.symm
  obtain rfl : fn = Tryd.f6 := (Option.some.inj (Tryd.func6.symm.trans hfn)).symm
  refine ⟨by kernel_rfl, fun j t ht => ?_⟩
  have hall : Tryd.f6.params.toList.all (fun t => !Tryd.prog.wantsStandIn t) = true := by kernel_rfl
  have := List.all_eq_true.1 hall t (by simpa using Array.mem_of_getElem? ht)
  exact (by simpa using this : Tryd.prog.wantsStandIn t = false)

theorem card : Rows.GraphPartsCardSaid :=
  Claim7.holds_tied_plain_at .later [] _ _ _ _ said (fun _ h => by cases h) (by kernel_rfl) (fun _ h => by cases h) graphParts_row_tie rfl ⟨rfl, rfl⟩ (by kernel_rfl) rfl plain (by kernel_rfl)

end Go.Proofs.YtcopdikdkkdlfaaDoor.graphParts
end
