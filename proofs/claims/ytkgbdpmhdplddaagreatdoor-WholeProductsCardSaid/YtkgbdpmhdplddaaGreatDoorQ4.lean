/- Merged by a program out of several texts. -/
import Derived.Test.YtkgbdpmhdplddaaGreatDoorQ3
import Derived.Test.YtkgbdpmhdplddaaGreatDoorProg
set_option linter.all false
set_option linter.unusedSimpArgs false
set_option linter.unusedVariables false

section
/- Numbers by their digits of base 10000: values, canonical lists, sums, differences, products. Turned by a program out of the texts on limbs. No program is in sight here. -/
namespace Go.Cm.D
open Go.Cm

def LB : Int := 10000

def valL : List Int → Int
  | [] => 0
  | x :: r => x + LB * valL r

def Lim (l : List Int) : Prop := ∀ x ∈ l, 0 ≤ x ∧ x < LB

def Cano (l : List Int) : Prop := Lim l ∧ l.getLastD 1 ≠ 0

theorem valL_append (a b : List Int) : valL (a ++ b) = valL a + LB ^ a.length * valL b := by
  induction a with
  | nil => simp [valL]
  | cons x r ih => simp only [List.cons_append, valL, ih, List.length_cons, Int.pow_succ]; rw [Int.mul_add, Int.add_assoc, Int.mul_comm (LB ^ r.length) LB, Int.mul_assoc]

theorem valL_one (x : Int) : valL [x] = x := by simp [valL]

theorem Lim.append {a b : List Int} (ha : Lim a) (hb : Lim b) : Lim (a ++ b) := fun x hx => (List.mem_append.1 hx).elim (ha x) (hb x)

theorem Lim.one {x : Int} (h0 : 0 ≤ x) (h1 : x < LB) : Lim [x] := fun y hy => by simp at hy; subst hy; exact ⟨h0, h1⟩

theorem valL_nonneg {l : List Int} (h : Lim l) : 0 ≤ valL l := by
  induction l with
  | nil => simp [valL]
  | cons x r ih =>
    have h1 := h x (by simp)
    have h2 := ih fun y hy => h y (by simp [hy])
    have : 0 ≤ LB * valL r := Int.mul_nonneg (by decide) h2
    simp only [valL]; omega

theorem valL_lt {l : List Int} (h : Lim l) : valL l < LB ^ l.length := by
  induction l with
  | nil => simp [valL]
  | cons x r ih =>
    have h1 := h x (by simp)
    have h2 := ih fun y hy => h y (by simp [hy])
    simp only [valL, List.length_cons, Int.pow_succ]
    have h3 : LB * valL r ≤ LB * (LB ^ r.length - 1) := Int.mul_le_mul_of_nonneg_left (by omega) (by decide)
    rw [Int.mul_sub, Int.mul_one] at h3
    rw [Int.mul_comm (LB ^ r.length)]; omega

theorem valL_inj : ∀ {a b : List Int}, Lim a → Lim b → a.length = b.length → valL a = valL b → a = b
  | [], [], _, _, _, _ => rfl
  | x :: r, y :: s, ha, hb, hl, hv => by
    have h1 := ha x (by simp)
    have h2 := hb y (by simp)
    simp only [valL] at hv
    have hm : x % LB = y % LB := by
      have : (x + LB * valL r) % LB = (y + LB * valL s) % LB := by rw [hv]
      rwa [Int.add_mul_emod_self_left, Int.add_mul_emod_self_left] at this
    rw [Int.emod_eq_of_lt h1.1 h1.2, Int.emod_eq_of_lt h2.1 h2.2] at hm
    subst hm
    have hv2 : valL r = valL s := Int.eq_of_mul_eq_mul_left (a := LB) (by decide) (by omega)
    rw [valL_inj (fun z hz => ha z (by simp [hz])) (fun z hz => hb z (by simp [hz])) (by simpa using hl) hv2]
  | [], _ :: _, _, _, hl, _ => by simp at hl
  | _ :: _, [], _, _, hl, _ => by simp at hl

theorem getLastD_append {a b : List Int} {d : Int} (hb : b ≠ []) : (a ++ b).getLastD d = b.getLastD d := by
  cases b with
  | nil => exact absurd rfl hb
  | cons x r => simp [List.getLastD_eq_getLast?, List.getLast?_append, List.getLast?_eq_some_getLast hb]

theorem valL_ge {l : List Int} (h : Cano l) (hne : l ≠ []) : LB ^ (l.length - 1) ≤ valL l := by
  obtain ⟨h1, h2⟩ := h
  have hl := List.dropLast_concat_getLast hne
  have hlast : l.getLastD 1 = l.getLast hne := by rw [List.getLastD_eq_getLast?, List.getLast?_eq_some_getLast hne]; rfl
  rw [hlast] at h2
  have h3 := h1 (l.getLast hne) (List.getLast_mem hne)
  have h4 : Lim l.dropLast := fun x hx => h1 x (List.dropLast_subset l hx)
  have h5 := valL_nonneg h4
  have h6 : valL l = valL l.dropLast + LB ^ l.dropLast.length * l.getLast hne := by
    conv => lhs; rw [← hl]
    rw [valL_append, valL_one]
  rw [h6, List.length_dropLast]
  have h7 : 0 ≤ LB ^ (l.length - 1) := Int.pow_nonneg (by decide)
  have h8 : LB ^ (l.length - 1) * 1 ≤ LB ^ (l.length - 1) * l.getLast hne := Int.mul_le_mul_of_nonneg_left (by omega) h7
  omega

theorem pow_mono {a b : Nat} (h : a ≤ b) : LB ^ a ≤ LB ^ b := by
  induction h with
  | refl => exact Int.le_refl _
  | @step m h ih =>
    rw [Int.pow_succ]
    have : 0 ≤ LB ^ m := Int.pow_nonneg (show (0 : Int) ≤ LB by decide)
    have h2 : LB ^ m * 1 ≤ LB ^ m * LB := Int.mul_le_mul_of_nonneg_left (by decide) this
    omega

theorem Cano.eq {a b : List Int} (ha : Cano a) (hb : Cano b) (h : valL a = valL b) : a = b := by
  have key : ∀ {a b : List Int}, Cano a → Cano b → valL a = valL b → ¬ a.length < b.length := by
    intro a b ha hb h hlt
    have hne : b ≠ [] := by intro e; subst e; simp at hlt
    have h1 := valL_lt ha.1
    have h2 := valL_ge hb hne
    have h3 := pow_mono (show a.length ≤ b.length - 1 by omega)
    omega
  exact valL_inj ha.1 hb.1 (by have := key ha hb h; have := key hb ha h.symm; omega) h

def limbs (n : Nat) : List Int := if h : n = 0 then [] else ((n % 10000 : Nat) : Int) :: limbs (n / 10000)
termination_by n
decreasing_by omega

theorem limbs_val (n : Nat) : valL (limbs n) = n := by
  induction n using limbs.induct with
  | case1 => simp [limbs, valL]
  | case2 n h ih =>
    rw [limbs, dif_neg h, valL, ih]
    unfold LB; omega

theorem limbs_nil {n : Nat} : limbs n = [] ↔ n = 0 := by
  rw [limbs]; split
  · simp [*]
  · simp [*]

theorem limbs_can (n : Nat) : Cano (limbs n) := by
  induction n using limbs.induct with
  | case1 => simp [limbs, Cano, Lim]
  | case2 n h ih =>
    rw [limbs, dif_neg h]
    refine ⟨fun x hx => ?_, ?_⟩
    · rcases List.mem_cons.1 hx with rfl | hx
      · unfold LB; omega
      · exact ih.1 x hx
    · by_cases e : limbs (n / 10000) = []
      · have := limbs_nil.1 e
        rw [e]; simp; omega
      · have := getLastD_append (a := [((n % 10000 : Nat) : Int)]) (d := 1) e
        rw [List.singleton_append] at this
        rw [this]; exact ih.2

theorem Cano.limbs {a : List Int} (h : Cano a) {n : Nat} (hv : valL a = n) : a = limbs n := h.eq (limbs_can n) (by rw [hv, limbs_val])

theorem limbs_len {n k : Nat} (h : (n : Int) < LB ^ k) : (limbs n).length ≤ k := by
  by_cases e : limbs n = []
  · simp [e]
  · have h1 := valL_ge (limbs_can n) e
    rw [limbs_val] at h1
    by_cases hk : (limbs n).length ≤ k
    · exact hk
    · have := pow_mono (show k ≤ (limbs n).length - 1 by omega)
      omega

theorem take_succ_val {l : List Int} {k : Nat} (h : k < l.length) : valL (l.take (k + 1)) = valL (l.take k) + LB ^ k * l.getD k 0 := by
  rw [List.take_add_one, valL_append]
  simp only [List.length_take, Nat.min_eq_left (Nat.le_of_lt h), List.getElem?_eq_getElem h, Option.toList_some, valL_one, List.getD_eq_getElem?_getD, Option.getD_some]

theorem Lim.getD {l : List Int} (h : Lim l) (k : Nat) : 0 ≤ l.getD k 0 ∧ l.getD k 0 < LB := by
  rw [List.getD_eq_getElem?_getD]
  by_cases hk : k < l.length
  · rw [List.getElem?_eq_getElem hk]; exact h _ (List.getElem_mem hk)
  · rw [List.getElem?_eq_none (by omega)]; exact ⟨by simp, by simp; decide⟩

theorem take_val (l : List Int) (k : Nat) : valL (l.take (k + 1)) = valL (l.take k) + LB ^ k * l.getD k 0 := by
  by_cases h : k < l.length
  · exact take_succ_val h
  · rw [List.take_of_length_le (by omega), List.take_of_length_le (by omega), List.getD_eq_getElem?_getD, List.getElem?_eq_none (by omega)]; simp

theorem cano_of_ge {l : List Int} (h : Lim l) (hv : l ≠ [] → LB ^ (l.length - 1) ≤ valL l) : Cano l := by
  refine ⟨h, fun h0 => ?_⟩
  by_cases hne : l = []
  · subst hne; simp at h0
  · have hl := List.dropLast_concat_getLast hne
    have hlast : l.getLastD 1 = l.getLast hne := by rw [List.getLastD_eq_getLast?, List.getLast?_eq_some_getLast hne]; rfl
    rw [hlast] at h0
    have h4 : Lim l.dropLast := fun x hx => h x (List.dropLast_subset l hx)
    have h6 : valL l = valL l.dropLast + LB ^ l.dropLast.length * l.getLast hne := by
      conv => lhs; rw [← hl]
      rw [valL_append, valL_one]
    rw [h0, Int.mul_zero, Int.add_zero] at h6
    have h7 := valL_lt h4
    rw [List.length_dropLast] at h7
    have := hv hne
    omega

theorem tdiv_nn {n : Int} (h : 0 ≤ n) : n.tdiv 10000 = n / LB ∧ n.tmod 10000 = n % LB :=
  ⟨Int.tdiv_eq_ediv_of_nonneg h, Int.tmod_eq_emod_of_nonneg h⟩

theorem valL_pos {l : List Int} (h : Cano l) : 0 < valL l ↔ l ≠ [] := by
  constructor
  · rintro h1 rfl; simp [valL] at h1
  · intro hne
    have h1 := valL_ge h hne
    have h2 : 0 < LB ^ (l.length - 1) := Int.pow_pos (by decide)
    omega

theorem last_eq {l : List Int} (h : 0 < l.length) : nth (.int .i64) l ((l.length : Int) - 1) = l.getLastD 1 := by
  have hne : l ≠ [] := by intro e; subst e; simp at h
  have e : ((l.length : Int) - 1).toNat = l.length - 1 := by omega
  show l.getD _ _ = _
  rw [e, List.getD_eq_getElem?_getD, List.getElem?_eq_getElem (by omega), List.getLastD_eq_getLast?, List.getLast?_eq_getElem?, List.getElem?_eq_getElem (by omega)]
  rfl

theorem drop_zero_val {l : List Int} (hl : Lim l) (h : 0 < l.length) (h0 : l.getLastD 1 = 0) : valL l.dropLast = valL l ∧ Lim l.dropLast := by
  have hne : l ≠ [] := by intro e; subst e; simp at h
  have hd := List.dropLast_concat_getLast hne
  have hlast : l.getLastD 1 = l.getLast hne := by rw [List.getLastD_eq_getLast?, List.getLast?_eq_some_getLast hne]; rfl
  refine ⟨?_, fun x hx => hl x (List.dropLast_subset l hx)⟩
  conv => rhs; rw [← hd]
  rw [valL_append, valL_one, ← hlast, h0]; omega

theorem take_last {l : List Int} (h : 0 < l.length) : List.take (IntKind.i64.wrap ((l.length : Int) - 1)).toNat l = l.dropLast ∨ ¬ (l.length : Int) < 9223372036854775808 := by
  by_cases hb : (l.length : Int) < 9223372036854775808
  · left
    rw [wi (by omega) (by omega)]
    have e : ((l.length : Int) - 1).toNat = l.length - 1 := by omega
    rw [e, List.dropLast_eq_take]
  · exact .inr hb

theorem whole_round {m z : List Int} (g1 : Lim z) (g2 : valL z = valL m) (g3 : z.length ≤ m.length) (hz : (0 : Int) < (z.length : Int)) (hb : z.length < 1000000000000) (h0 : nth (.int .i64) z (IntKind.i64.wrap ((z.length : Int) - 1)) = 0) :
    Lim (List.drop (Int.toNat 0) (List.take (IntKind.i64.wrap ((z.length : Int) - 1)).toNat z)) ∧ valL (List.drop (Int.toNat 0) (List.take (IntKind.i64.wrap ((z.length : Int) - 1)).toNat z)) = valL m ∧
      (List.drop (Int.toNat 0) (List.take (IntKind.i64.wrap ((z.length : Int) - 1)).toNat z)).length ≤ m.length ∧ (List.drop (Int.toNat 0) (List.take (IntKind.i64.wrap ((z.length : Int) - 1)).toNat z)).length < z.length := by
  have hz' : 0 < z.length := by omega
  have e := (take_last hz').resolve_right (by omega)
  rw [wi (by omega) (by omega), last_eq hz'] at h0
  obtain ⟨d1, d2⟩ := drop_zero_val g1 hz' h0
  rw [show Int.toNat 0 = 0 from rfl, List.drop_zero, e]
  exact ⟨d2, by rw [d1, g2], by simp; omega, by simp; omega⟩

theorem cmp_len {a b : List Int} (ha : Cano a) (hb : Cano b) (h : a.length < b.length) : valL a < valL b := by
  have hne : b ≠ [] := by intro e; subst e; simp at h
  have h1 := valL_lt ha.1
  have h2 := valL_ge hb hne
  have h3 := pow_mono (show a.length ≤ b.length - 1 by omega)
  omega

theorem cmp_at {a b : List Int} (ha : Lim a) (hb : Lim b) (hl : a.length = b.length) {k : Nat} (hk : k < a.length) (h : a.drop (k + 1) = b.drop (k + 1)) (hlt : a.getD k 0 < b.getD k 0) : valL a < valL b := by
  have e1 : valL a = valL (a.take (k + 1)) + LB ^ (k + 1) * valL (a.drop (k + 1)) := by
    conv => lhs; rw [← List.take_append_drop (k + 1) a]
    rw [valL_append, List.length_take, Nat.min_eq_left (by omega)]
  have e2 : valL b = valL (b.take (k + 1)) + LB ^ (k + 1) * valL (b.drop (k + 1)) := by
    conv => lhs; rw [← List.take_append_drop (k + 1) b]
    rw [valL_append, List.length_take, Nat.min_eq_left (by omega)]
  rw [e1, e2, h, take_val, take_val]
  have h1 := valL_lt (l := a.take k) (fun x hx => ha x (List.mem_of_mem_take hx))
  have h2 := valL_nonneg (l := b.take k) (fun x hx => hb x (List.mem_of_mem_take hx))
  rw [List.length_take, Nat.min_eq_left (by omega)] at h1
  have h3 : LB ^ k * (a.getD k 0 + 1) ≤ LB ^ k * b.getD k 0 := Int.mul_le_mul_of_nonneg_left (by omega) (Int.pow_nonneg (by decide))
  rw [Int.mul_add, Int.mul_one] at h3
  omega

def padL : Nat → Nat → List Int
  | _, 0 => []
  | v, k + 1 => ((v % 10000 : Nat) : Int) :: padL (v / 10000) k

theorem padL_len : ∀ (v k : Nat), (padL v k).length = k
  | _, 0 => rfl
  | v, k + 1 => by simp [padL, padL_len]

theorem padL_lim : ∀ (v k : Nat), Lim (padL v k)
  | _, 0 => fun x hx => by simp [padL] at hx
  | v, k + 1 => fun x hx => by
    rcases List.mem_cons.1 hx with rfl | hx
    · unfold LB; omega
    · exact padL_lim _ k x hx

theorem padL_val : ∀ (v k : Nat), (v : Int) < LB ^ k → valL (padL v k) = v
  | v, 0, h => by
    have : v = 0 := by simp at h; omega
    subst this; rfl
  | v, k + 1, h => by
    have : ((v / 10000 : Nat) : Int) < LB ^ k := by
      rw [Int.pow_succ] at h
      have e : ((v / 10000 : Nat) : Int) = (v : Int) / LB := by unfold LB; omega
      rw [e]
      exact Int.ediv_lt_of_lt_mul (by decide) h
    rw [padL, valL, padL_val _ k this]
    unfold LB; omega

theorem Lim.pad {l : List Int} (h : Lim l) {v k : Nat} (hl : l.length = k) (hv : valL l = v) : l = padL v k :=
  valL_inj h (padL_lim v k) (by rw [hl, padL_len]) (by rw [hv, padL_val]; rw [← hv, ← hl]; exact valL_lt h)

theorem len_le {a b : List Int} (ha : Cano a) (hb : Cano b) (h : valL a ≤ valL b) : a.length ≤ b.length := by
  by_cases hl : b.length < a.length
  · have := cmp_len hb ha hl; omega
  · omega

theorem minus_round {m o out : List Int} {k : Nat} {b n b' : Int} (g2 : out.length = k) (g3 : Lim out) (g6 : valL out + valL (o.take k) = valL (m.take k) + LB ^ k * b) (hn : 0 ≤ n) (hn2 : n < LB) (he : n = m.getD k 0 - b - o.getD k 0 + LB * b') :
    Lim (out ++ [n]) ∧ valL (out ++ [n]) + valL (o.take (k + 1)) = valL (m.take (k + 1)) + LB ^ (k + 1) * b' := by
  refine ⟨g3.append (Lim.one hn hn2), ?_⟩
  rw [valL_append, valL_one, g2, take_val, take_val, Int.pow_succ]
  have h1 : LB ^ k * n = LB ^ k * m.getD k 0 - LB ^ k * b - LB ^ k * o.getD k 0 + LB ^ k * LB * b' := by
    rw [he, Int.mul_add, Int.mul_sub, Int.mul_sub, Int.mul_assoc]
  omega

theorem minus_end {m o out : List Int} {b : Int} (hm : Cano m) (ho : Cano o) (hle : valL o ≤ valL m) (g2 : out.length = m.length) (g3 : Lim out) (g4 : 0 ≤ b) (g6 : valL out + valL (o.take m.length) = valL m + LB ^ m.length * b) : out = padL (valL m - valL o).toNat m.length := by
  rw [List.take_of_length_le (len_le ho hm hle)] at g6
  have h1 := valL_lt g3
  rw [g2] at h1
  have h2 : 0 < LB ^ m.length := Int.pow_pos (by decide)
  have hb : b = 0 := by
    by_cases hb : b = 0
    · exact hb
    · have : LB ^ m.length * 1 ≤ LB ^ m.length * b := Int.mul_le_mul_of_nonneg_left (by omega) (by omega)
      omega
  subst hb
  exact g3.pad g2 (by omega)

theorem plus_len {m o : List Int} (hm : Cano m) (ho : Cano o) : (limbs (valL m + valL o).toNat).length ≤ m.length + o.length := by
  have h1 := valL_lt hm.1
  have h2 := valL_lt ho.1
  have h3 := valL_nonneg hm.1
  have h4 := valL_nonneg ho.1
  have hpos : ∀ k, 1 ≤ LB ^ k := fun k => (Int.pow_pos (show (0 : Int) < LB by decide) : 0 < LB ^ k)
  by_cases e1 : m = []
  · subst e1; rw [show valL ([] : List Int) = 0 from rfl, Int.zero_add]
    exact limbs_len (by rw [Int.toNat_of_nonneg h4]; simpa using h2)
  · by_cases e2 : o = []
    · subst e2; rw [show valL ([] : List Int) = 0 from rfl, Int.add_zero]
      exact limbs_len (by rw [Int.toNat_of_nonneg h3]; simpa using h1)
    · have l1 := List.length_pos_iff.2 e1
      have l2 := List.length_pos_iff.2 e2
      refine limbs_len ?_
      rw [Int.toNat_of_nonneg (by omega)]
      have p1 := pow_mono (show m.length ≤ m.length + o.length - 1 by omega)
      have p2 := pow_mono (show o.length ≤ m.length + o.length - 1 by omega)
      have p3 : LB ^ (m.length + o.length) = LB ^ (m.length + o.length - 1) * LB := by
        rw [← Int.pow_succ]; congr 1; omega
      have p4 := hpos (m.length + o.length - 1)
      have p5 : LB ^ (m.length + o.length - 1) * 2 ≤ LB ^ (m.length + o.length - 1) * LB := Int.mul_le_mul_of_nonneg_left (by decide) (by omega)
      omega

theorem minus_val {m o : List Int} (hm : Cano m) (ho : Cano o) (hle : valL o ≤ valL m) : valL (padL (valL m - valL o).toNat m.length) = valL m - valL o := by
  have h1 := valL_lt hm.1
  have h2 := valL_nonneg ho.1
  rw [padL_val _ _ (by rw [Int.toNat_of_nonneg (by omega)]; omega), Int.toNat_of_nonneg (by omega)]

theorem cmp_lens {m o : List Int} (hm : Cano m) (ho : Cano o) (h : cmpI (m.length : Int) (o.length : Int) ≠ 0) : cmpI (m.length : Int) (o.length : Int) = cmpI (valL m) (valL o) := by
  unfold cmpI at h ⊢
  by_cases h1 : m.length < o.length
  · have := cmp_len hm ho h1
    rw [if_pos (by omega), if_pos this]
  · by_cases h2 : o.length < m.length
    · have := cmp_len ho hm h2
      rw [if_neg (by omega), if_pos (by omega), if_neg (by omega), if_pos this]
    · rw [if_neg (by omega), if_neg (by omega)] at h; exact absurd rfl h

theorem cmp_place {m o : List Int} (hm : Cano m) (ho : Cano o) (hl : m.length = o.length) {k : Nat} (hk : k < m.length) (hd : m.drop (k + 1) = o.drop (k + 1)) (h : cmpI (m.getD k 0) (o.getD k 0) ≠ 0) : cmpI (m.getD k 0) (o.getD k 0) = cmpI (valL m) (valL o) := by
  unfold cmpI at h ⊢
  by_cases h1 : m.getD k 0 < o.getD k 0
  · have := cmp_at hm.1 ho.1 hl hk hd h1
    rw [if_pos h1, if_pos this]
  · by_cases h2 : o.getD k 0 < m.getD k 0
    · have := cmp_at ho.1 hm.1 hl.symm (by omega) hd.symm h2
      rw [if_neg h1, if_pos h2, if_neg (by omega), if_pos this]
    · rw [if_neg h1, if_neg h2] at h; exact absurd rfl h

theorem drop_step {m o : List Int} {k : Nat} (hl : m.length = o.length) (hk : k < m.length) (hd : m.drop (k + 1) = o.drop (k + 1)) (h : m.getD k 0 = o.getD k 0) : m.drop k = o.drop k := by
  rw [List.drop_eq_getElem_cons hk, List.drop_eq_getElem_cons (show k < o.length by omega), hd]
  rw [List.getD_eq_getElem?_getD, List.getD_eq_getElem?_getD, List.getElem?_eq_getElem hk, List.getElem?_eq_getElem (show k < o.length by omega)] at h
  simp at h; rw [h]

theorem set_val : ∀ {l : List Int} {j : Nat} {v : Int}, j < l.length → valL (l.set j v) = valL l + LB ^ j * (v - l.getD j 0)
  | x :: r, 0, v, _ => by simp [valL]; omega
  | x :: r, j + 1, v, h => by
    have ih := set_val (l := r) (j := j) (v := v) (by simpa using h)
    simp only [List.set_cons_succ, valL, ih, List.getD_cons_succ, Int.pow_succ]
    rw [Int.mul_add, Int.mul_comm (LB ^ j) LB, Int.mul_assoc]; omega
  | [], _, _, h => by simp at h

theorem set_lim {l : List Int} {j : Nat} {v : Int} (h : Lim l) (h0 : 0 ≤ v) (h1 : v < LB) : Lim (l.set j v) := fun x hx => by
  rcases List.mem_or_eq_of_mem_set hx with h2 | rfl
  · exact h x h2
  · exact ⟨h0, h1⟩

theorem getD_set_ne {l : List Int} {j k : Nat} {v : Int} (h : j ≠ k) : (l.set j v).getD k 0 = l.getD k 0 := by
  rw [List.getD_eq_getElem?_getD, List.getD_eq_getElem?_getD, List.getElem?_set_ne h]

theorem mul_bound {x y a c : Int} (hx : 0 ≤ x ∧ x < LB) (hy : 0 ≤ y ∧ y < LB) (ha : 0 ≤ a ∧ a < LB) (hc : 0 ≤ c ∧ c < LB) : 0 ≤ x * y ∧ x * y + a + c < LB * LB ∧ x * y ≤ LB * LB := by
  have h1 : 0 ≤ x * y := Int.mul_nonneg hx.1 hy.1
  have h2 : x * y ≤ (LB - 1) * (LB - 1) := Int.mul_le_mul (by omega) (by omega) hy.1 (by decide)
  have hB : LB = 10000 := rfl
  have h3 : (LB - 1) * (LB - 1) = 99980001 := rfl
  have h4 : LB * LB = 100000000 := rfl
  omega

theorem mul_step {x y out : List Int} {i k : Nat} {c p n : Int} (hx : Lim x) (hy : Lim y) (h1 : out.length = x.length + y.length) (h2 : Lim out) (h3 : 0 ≤ c) (h4 : c < LB) (hi : i < x.length) (hk : k < y.length)
    (h6 : valL out + LB ^ (i + k) * c = p + LB ^ i * (x.getD i 0 * valL (y.take k))) (hz : ∀ j, i + y.length ≤ j → out.getD j 0 = 0) (hn : n = x.getD i 0 * y.getD k 0 + out.getD (i + k) 0 + c) :
    0 ≤ n ∧ n < LB * LB ∧ (out.set (i + k) (n % LB)).length = x.length + y.length ∧ Lim (out.set (i + k) (n % LB)) ∧ 0 ≤ n / LB ∧ n / LB < LB ∧
      valL (out.set (i + k) (n % LB)) + LB ^ (i + (k + 1)) * (n / LB) = p + LB ^ i * (x.getD i 0 * valL (y.take (k + 1))) ∧ ∀ j, i + y.length ≤ j → (out.set (i + k) (n % LB)).getD j 0 = 0 := by
  have hb := mul_bound (hx.getD i) (hy.getD k) (h2.getD (i + k)) ⟨h3, h4⟩
  have ha := h2.getD (i + k)
  have hB : LB = 10000 := rfl
  have hn0 : 0 ≤ n := by omega
  have hn1 : n < LB * LB := by omega
  have hm : 0 ≤ n % LB ∧ n % LB < LB := ⟨Int.emod_nonneg _ (by decide), Int.emod_lt_of_pos _ (by decide)⟩
  refine ⟨hn0, hn1, by simp [h1], set_lim h2 hm.1 hm.2, Int.ediv_nonneg hn0 (by decide), Int.ediv_lt_of_lt_mul (by decide) hn1, ?_, fun j hj => ?_⟩
  · rw [set_val (by omega), take_val, ← Nat.add_assoc, Int.pow_succ]
    have e1 : n % LB + LB * (n / LB) = n := Int.emod_add_mul_ediv n LB
    have e2 : LB ^ (i + k) * (n % LB - out.getD (i + k) 0) + LB ^ (i + k) * LB * (n / LB) = LB ^ (i + k) * (n - out.getD (i + k) 0) := by
      rw [Int.mul_assoc, ← Int.mul_add]; congr 1; omega
    have e3 : n - out.getD (i + k) 0 = x.getD i 0 * y.getD k 0 + c := by omega
    have e4 : LB ^ (i + k) = LB ^ i * LB ^ k := Int.pow_add ..
    have e5 : LB ^ i * (x.getD i 0 * (valL (y.take k) + LB ^ k * y.getD k 0)) = LB ^ i * (x.getD i 0 * valL (y.take k)) + LB ^ (i + k) * (x.getD i 0 * y.getD k 0) := by
      rw [Int.mul_add, Int.mul_add, e4]
      congr 1
      rw [Int.mul_assoc, Int.mul_left_comm (x.getD i 0)]
    rw [e3, Int.mul_add] at e2
    omega
  · rw [getD_set_ne (by omega)]; exact hz j hj

theorem mul_row {x y out : List Int} {i : Nat} {c p : Int} (h1 : out.length = x.length + y.length) (h2 : Lim out) (h3 : 0 ≤ c) (h4 : c < LB) (hi : i < x.length) (hp : p = valL (x.take i) * valL y)
    (h6 : valL out + LB ^ (i + y.length) * c = p + LB ^ i * (x.getD i 0 * valL y)) (hz : ∀ j, i + y.length ≤ j → out.getD j 0 = 0) :
    (out.set (i + y.length) c).length = x.length + y.length ∧ Lim (out.set (i + y.length) c) ∧ valL (out.set (i + y.length) c) = valL (x.take (i + 1)) * valL y ∧ ∀ j, i + 1 + y.length ≤ j → (out.set (i + y.length) c).getD j 0 = 0 := by
  refine ⟨by simp [h1], set_lim h2 h3 h4, ?_, fun j hj => ?_⟩
  · rw [set_val (by omega), hz _ (Nat.le_refl _), take_val, Int.add_mul, Int.sub_zero, h6, hp, Int.mul_assoc]
  · rw [getD_set_ne (by omega)]; exact hz j (by omega)

theorem replicate_zero (n : Nat) : Lim (List.replicate n 0) ∧ valL (List.replicate n 0) = 0 ∧ ∀ j, (List.replicate n (0 : Int)).getD j 0 = 0 := by
  refine ⟨fun x hx => ?_, ?_, fun j => ?_⟩
  · have := List.eq_of_mem_replicate hx; subst this; exact ⟨by decide, by decide⟩
  · induction n with
    | zero => rfl
    | succ n ih => rw [List.replicate_succ, valL, ih]; rfl
  · rw [List.getD_eq_getElem?_getD, List.getElem?_replicate]; split <;> rfl

end Go.Cm.D
end

section
/- What the reference's digits' functions compute: trimming, sums, differences, products. No program is in sight here. -/
namespace Go.Cm.D
open Go.Cm

theorem hB : LB = 10000 := rfl
theorem gt_of {a b : Int} (h1 : ¬ a < b) (h2 : a ≠ b) : b < a := by omega
theorem lbpos (k : Nat) : 0 < LB ^ k := Int.pow_pos (by decide)

theorem cut_fin {m z : List Int} (g1 : Lim z) (g2 : valL z = valL m) (h : 0 < z.length → z.getLastD 1 ≠ 0) : z = limbs (valL m).toNat := by
  have h0 := valL_nonneg g1
  refine Cano.limbs ⟨g1, ?_⟩ (by omega)
  by_cases e : 0 < z.length
  · exact h e
  · have : z = [] := List.eq_nil_of_length_eq_zero (by omega)
    subst this; simp

theorem getD_none {l : List Int} {k : Nat} (h : l.length ≤ k) : l.getD k 0 = 0 := by
  rw [List.getD_eq_getElem?_getD, List.getElem?_eq_none h]; rfl

/-- One digit and what is carried. -/
theorem digit {n : Int} (h0 : 0 ≤ n) (h1 : n < 9223372036854775808) : n.tmod 10000 = n % LB ∧ IntKind.i64.wrap (n.tdiv 10000) = n / LB ∧ 0 ≤ n % LB ∧ n % LB < LB ∧ 0 ≤ n / LB ∧ n % LB + LB * (n / LB) = n := by
  obtain ⟨e1, e2⟩ := tdiv_nn h0
  have h2 : 0 ≤ n / LB := Int.ediv_nonneg h0 (by decide)
  have h3 : n / LB ≤ n := by rw [hB]; omega
  exact ⟨e2, by rw [e1]; exact wi (by omega) (by omega), Int.emod_nonneg _ (by decide), Int.emod_lt_of_pos _ (by decide), h2, Int.emod_add_mul_ediv n LB⟩

/-- At the first place where lists of one length part. -/
theorem cmp_less {m o : List Int} (hm : Cano m) (ho : Cano o) (hl : m.length = o.length) {k : Nat} (hk : k < m.length) (hd : m.drop (k + 1) = o.drop (k + 1)) (h : m.getD k 0 < o.getD k 0) : cmpI (valL m) (valL o) = -1 := by
  unfold cmpI; rw [if_pos (cmp_at hm.1 ho.1 hl hk hd h)]
theorem cmp_more {m o : List Int} (hm : Cano m) (ho : Cano o) (hl : m.length = o.length) {k : Nat} (hk : k < m.length) (hd : m.drop (k + 1) = o.drop (k + 1)) (h : o.getD k 0 < m.getD k 0) : cmpI (valL m) (valL o) = 1 := by
  have := cmp_at ho.1 hm.1 hl.symm (by omega) hd.symm h
  unfold cmpI; rw [if_neg (by omega), if_pos this]

structure PlusPhi (m o : List Int) (k : Nat) (c : Int) (out : List Int) : Prop where
  hk : out.length = k
  hl : Lim out
  hc : 0 ≤ c ∧ c ≤ 1
  hv : valL out + LB ^ k * c = valL (m.take k) + valL (o.take k)
  hs : k ≤ max m.length o.length ∨ (c = 0 ∧ LB ^ (k - 1) ≤ valL out)

theorem plus_start {m o : List Int} : PlusPhi m o 0 0 [] := ⟨rfl, fun x hx => by simp at hx, by omega, by simp [valL], .inl (by omega)⟩

theorem plus_n {m o : List Int} {k : Nat} {c : Int} {out : List Int} (hm : Lim m) (ho : Lim o) (h : PlusPhi m o k c out) :
    IntKind.i64.wrap (c + m.getD k 0) = c + m.getD k 0 ∧ IntKind.i64.wrap (c + m.getD k 0 + o.getD k 0) = c + m.getD k 0 + o.getD k 0 ∧ IntKind.i64.wrap (c + o.getD k 0) = c + o.getD k 0 := by
  have h1 := hm.getD k
  have h2 := ho.getD k
  have h3 := h.hc
  have e := hB
  exact ⟨wi (by omega) (by omega), wi (by omega) (by omega), wi (by omega) (by omega)⟩

theorem plus_next {m o : List Int} {k : Nat} {c n : Int} {out : List Int} (hm : Lim m) (ho : Lim o) (h : PlusPhi m o k c out) (hb : (k < m.length ∨ k < o.length) ∨ 0 < c) (hn : n = c + m.getD k 0 + o.getD k 0) :
    PlusPhi m o (k + 1) (IntKind.i64.wrap (n.tdiv 10000)) (out ++ [n.tmod 10000]) ∧ 2 * (max m.length o.length - (k + 1)) + (IntKind.i64.wrap (n.tdiv 10000)).toNat < 2 * (max m.length o.length - k) + c.toNat := by
  have h1 := hm.getD k
  have h2 := ho.getD k
  obtain ⟨hk, hl, hc, hv, hs⟩ := h
  have e := hB
  obtain ⟨d1, d2, d3, d4, d5, d6⟩ := digit (n := n) (by omega) (by omega)
  have hq : n / LB ≤ 1 := by rw [hB] at h1 h2 ⊢; omega
  rw [d1, d2]
  have hval : valL (out ++ [n % LB]) + LB ^ (k + 1) * (n / LB) = valL (m.take (k + 1)) + valL (o.take (k + 1)) := by
    rw [valL_append, valL_one, hk, take_val, take_val, Int.pow_succ]
    have h3 : LB ^ k * (n % LB) + LB ^ k * LB * (n / LB) = LB ^ k * n := by rw [Int.mul_assoc, ← Int.mul_add, d6]
    have h4 : LB ^ k * n = LB ^ k * c + LB ^ k * m.getD k 0 + LB ^ k * o.getD k 0 := by rw [hn, Int.mul_add, Int.mul_add]
    omega
  by_cases hM : k + 1 ≤ max m.length o.length
  · exact ⟨⟨by simp [hk], hl.append (Lim.one d3 d4), ⟨d5, hq⟩, hval, .inl hM⟩, by omega⟩
  · have hkM : k = max m.length o.length := by
      rcases hs with hs | ⟨hs, -⟩
      · omega
      · omega
    have g1 : m.getD k 0 = 0 := getD_none (by omega)
    have g2 : o.getD k 0 = 0 := getD_none (by omega)
    have hc1 : c = 1 := by omega
    have hn1 : n = 1 := by omega
    have q0 : n / LB = 0 := by rw [hn1]; rfl
    have r1 : n % LB = 1 := by rw [hn1]; rfl
    refine ⟨⟨by simp [hk], hl.append (Lim.one d3 d4), ⟨d5, hq⟩, hval, .inr ⟨q0, ?_⟩⟩, by rw [q0]; omega⟩
    rw [valL_append, valL_one, hk, r1, Nat.add_sub_cancel]
    have := valL_nonneg hl
    omega

theorem plus_k {m o : List Int} {k : Nat} {c : Int} {out : List Int} (h : PlusPhi m o k c out) (hb : (k < m.length ∨ k < o.length) ∨ 0 < c) : k ≤ max m.length o.length := by
  rcases h.hs with hs | ⟨hs, -⟩
  · exact hs
  · omega

theorem plus_fin {m o : List Int} {k : Nat} {c : Int} {out : List Int} (hm : Cano m) (ho : Cano o) (h : PlusPhi m o k c out) (hb : ¬ ((k < m.length ∨ k < o.length) ∨ 0 < c)) : out = limbs (valL m + valL o).toNat := by
  obtain ⟨hk, hl, hc, hv, hs⟩ := h
  have hc0 : c = 0 := by omega
  rw [hc0, Int.mul_zero, Int.add_zero, List.take_of_length_le (by omega), List.take_of_length_le (by omega)] at hv
  have h1 := valL_nonneg hm.1
  have h2 := valL_nonneg ho.1
  refine Cano.limbs (cano_of_ge hl fun hne => ?_) (by omega)
  rw [hk]
  rcases hs with hs | ⟨-, hs⟩
  · rw [hv]
    by_cases hlt : m.length < o.length
    · have hone : o ≠ [] := by intro e; rw [e] at hlt; simp at hlt
      have := valL_ge ho hone
      have e : k = o.length := by omega
      rw [e]; omega
    · have hmne : m ≠ [] := by
        intro e
        have hm0 : m.length = 0 := by rw [e]; rfl
        have : k = 0 := by omega
        rw [this] at hk
        exact hne (List.eq_nil_of_length_eq_zero hk)
      have := valL_ge hm hmne
      have e : k = m.length := by omega
      rw [e]; omega
  · exact hs

structure MinusPhi (m o : List Int) (k : Nat) (b : Int) (out : List Int) : Prop where
  hk : out.length = k
  hkm : k ≤ m.length
  hl : Lim out
  hb : 0 ≤ b ∧ b ≤ 1
  hv : valL out + valL (o.take k) = valL (m.take k) + LB ^ k * b

theorem minus_start {m o : List Int} : MinusPhi m o 0 0 [] := ⟨rfl, Nat.zero_le _, fun x hx => by simp at hx, by omega, by simp [valL]⟩

/-- A digit of a difference, and what is borrowed. -/
def borrowed (n : Int) : Int := if n < 0 then 1 else 0

theorem nth64 {l : List Int} {k : Nat} : nth (.int .i64) l (k : Int) = l.getD k 0 := rfl
theorem borrow_t {n : Int} (h : n < 0) (hw : IntKind.i64.wrap (n + 10000) = n + 10000) : 1 = borrowed n ∧ IntKind.i64.wrap (n + 10000) = n + 10000 * borrowed n := by
  unfold borrowed; rw [if_pos h, hw]; exact ⟨rfl, rfl⟩
theorem borrow_f {n : Int} (h : ¬ n < 0) : 0 = borrowed n ∧ n = n + 10000 * borrowed n := by
  unfold borrowed; rw [if_neg h]; exact ⟨rfl, by omega⟩
theorem len_wrap {x y : List Int} (h : x.length + y.length < CAP) : IntKind.i64.wrap ((x.length : Int) + (y.length : Int)) = ((x.length + y.length : Nat) : Int) := by
  have h : x.length + y.length < 1000000000000 := h
  rw [wi (by omega) (by omega)]; omega

theorem minus_w {m o : List Int} {k : Nat} {b : Int} {out : List Int} (hm : Lim m) (ho : Lim o) (h : MinusPhi m o k b out) :
    IntKind.i64.wrap (m.getD k 0 - b) = m.getD k 0 - b ∧ IntKind.i64.wrap (m.getD k 0 - b - o.getD k 0) = m.getD k 0 - b - o.getD k 0 ∧ IntKind.i64.wrap (m.getD k 0 - b - o.getD k 0 + 10000) = m.getD k 0 - b - o.getD k 0 + 10000 := by
  have h1 := hm.getD k
  have h2 := ho.getD k
  have h3 := h.hb
  have e := hB
  exact ⟨wi (by omega) (by omega), wi (by omega) (by omega), wi (by omega) (by omega)⟩

theorem minus_next {m o : List Int} {k : Nat} {b n : Int} {out : List Int} (hm : Lim m) (ho : Lim o) (h : MinusPhi m o k b out) (hk1 : k < m.length) (hn : n = m.getD k 0 - b - o.getD k 0) :
    MinusPhi m o (k + 1) (borrowed n) (out ++ [n + 10000 * borrowed n]) := by
  have h1 := hm.getD k
  have h2 := ho.getD k
  obtain ⟨hk, hkm, hl, hb, hv⟩ := h
  have e := hB
  have hbb : 0 ≤ borrowed n ∧ borrowed n ≤ 1 ∧ 0 ≤ n + 10000 * borrowed n ∧ n + 10000 * borrowed n < LB := by
    unfold borrowed
    split <;> omega
  obtain ⟨m1, m2⟩ := minus_round (out := out) (b := b) (n := n + 10000 * borrowed n) (b' := borrowed n) hk hl hv hbb.2.2.1 hbb.2.2.2 (by rw [hn, e])
  exact ⟨by simp [hk], hk1, m1, ⟨hbb.1, hbb.2.1⟩, m2⟩

theorem minus_fin {m o : List Int} {k : Nat} {b : Int} {out : List Int} (hm : Cano m) (ho : Cano o) (hle : valL o ≤ valL m) (h : MinusPhi m o k b out) (hk2 : ¬ k < m.length) : valL out = valL m - valL o ∧ Lim out := by
  obtain ⟨hk, hkm, hl, hb, hv⟩ := h
  have hk3 : k = m.length := by omega
  subst hk3
  have := minus_end hm ho hle hk hl hb.1 (by rw [List.take_length] at hv; exact hv)
  exact ⟨by rw [this, minus_val hm ho hle], hl⟩

structure TimesPhi (x y : List Int) (i : Nat) (out : List Int) : Prop where
  h1 : i ≤ x.length
  h2 : out.length = x.length + y.length
  h3 : Lim out
  h4 : valL out = valL (x.take i) * valL y
  h5 : ∀ j, i + y.length ≤ j → out.getD j 0 = 0

theorem times_start {x y : List Int} : TimesPhi x y 0 (List.replicate (x.length + y.length) 0) := by
  obtain ⟨r1, r2, r3⟩ := replicate_zero (x.length + y.length)
  exact ⟨by simp, by simp, r1, by simp [r2, valL], fun j _ => r3 j⟩

/-- Digits that may reach the base, of a value that fits. -/
def Wid (y : List Int) : Prop := (∀ v ∈ y, 0 ≤ v ∧ v ≤ LB) ∧ valL y ≤ LB ^ y.length

theorem Lim.wid {y : List Int} (h : Lim y) : Wid y := ⟨fun v hv => ⟨(h v hv).1, Int.le_of_lt (h v hv).2⟩, Int.le_of_lt (valL_lt h)⟩
theorem wid_one {v : Int} (h0 : 0 ≤ v) (h1 : v ≤ LB) : Wid [v] := ⟨fun x hx => by simp at hx; subst hx; exact ⟨h0, h1⟩, by rw [valL_one]; show v ≤ LB ^ 1; rw [Int.pow_succ, Int.pow_zero, Int.one_mul]; exact h1⟩
theorem Wid.getD {y : List Int} (h : Wid y) (k : Nat) : 0 ≤ y.getD k 0 ∧ y.getD k 0 ≤ LB := by
  rw [List.getD_eq_getElem?_getD]
  by_cases hk : k < y.length
  · rw [List.getElem?_eq_getElem hk]; exact h.1 _ (List.getElem_mem hk)
  · rw [List.getElem?_eq_none (by omega)]; exact ⟨by simp, by simp; decide⟩

structure RowPhi (x y : List Int) (i k : Nat) (c : Int) (out : List Int) : Prop where
  h1 : k ≤ y.length ∨ (k = y.length + 1 ∧ c = 0)
  h2 : out.length = x.length + y.length
  h3 : Lim out
  h4 : 0 ≤ c ∧ c ≤ LB
  h6 : valL out + LB ^ (i + k) * c = valL (x.take i) * valL y + LB ^ i * (x.getD i 0 * valL (y.take k))
  h7 : ∀ j, i + max k y.length ≤ j → out.getD j 0 = 0

theorem row_start {x y out : List Int} {i : Nat} (h : TimesPhi x y i out) : RowPhi x y i 0 0 out :=
  ⟨.inl (Nat.zero_le _), h.h2, h.h3, ⟨by decide, by decide⟩, by rw [h.h4]; simp [valL], fun j hj => h.h5 j (by omega)⟩

theorem row_bound {x y a c : Int} (hx : 0 ≤ x ∧ x < LB) (hy : 0 ≤ y ∧ y ≤ LB) (ha : 0 ≤ a ∧ a < LB) (hc : 0 ≤ c ∧ c ≤ LB) :
    IntKind.i64.wrap (a + c) = a + c ∧ IntKind.i64.wrap (x * y) = x * y ∧ IntKind.i64.wrap (a + c + x * y) = a + c + x * y ∧ 0 ≤ a + c + x * y ∧ a + c + x * y < 100010000 := by
  have h1 : 0 ≤ x * y := Int.mul_nonneg hx.1 hy.1
  have h2 : x * y ≤ (LB - 1) * LB := Int.mul_le_mul (by omega) hy.2 hy.1 (by decide)
  have e := hB
  have e2 : (LB - 1) * LB = 99990000 := rfl
  exact ⟨wi (by omega) (by omega), wi (by omega) (by omega), wi (by omega) (by omega), by omega, by omega⟩

/-- At the row's end the carry is a digit. -/
theorem row_carry {x y out : List Int} {i k : Nat} {c : Int} (hx : Lim x) (hy : Wid y) (h : RowPhi x y i k c out) (hk : k = y.length) : c < LB := by
  obtain ⟨h1, h2, h3, h4, h6, h7⟩ := h
  rw [hk, List.take_length] at h6
  have a1 : valL (x.take i) * valL y + LB ^ i * (x.getD i 0 * valL y) = valL (x.take (i + 1)) * valL y := by
    rw [take_val, Int.add_mul, Int.mul_assoc]
  rw [a1] at h6
  have a2 := valL_nonneg h3
  have hxt : Lim (x.take (i + 1)) := fun z hz => hx z (List.mem_of_mem_take hz)
  have a3 := valL_lt hxt
  have a4 := valL_nonneg hxt
  have a5 := pow_mono (show (x.take (i + 1)).length ≤ i + 1 by rw [List.length_take]; omega)
  have hy0 : 0 ≤ valL y := by
    have key : ∀ l : List Int, (∀ v ∈ l, 0 ≤ v) → 0 ≤ valL l := by
      intro l
      induction l with
      | nil => intro _; simp [valL]
      | cons z l ih =>
        intro hz
        have e1 := hz z (by simp)
        have e2 := ih fun v hv => hz v (by simp [hv])
        have : 0 ≤ LB * valL l := Int.mul_nonneg (by decide) e2
        simp only [valL]; omega
    exact key y fun v hv => (hy.1 v hv).1
  have a6 : valL (x.take (i + 1)) * valL y ≤ (LB ^ (i + 1) - 1) * LB ^ y.length := Int.mul_le_mul (by omega) hy.2 hy0 (by have := lbpos (i + 1); omega)
  have a7 : (LB ^ (i + 1) - 1) * LB ^ y.length = LB ^ (i + y.length) * LB - LB ^ y.length := by
    rw [Int.sub_mul, Int.one_mul, Int.pow_succ, Int.pow_add]
    congr 1
    rw [Int.mul_assoc, Int.mul_assoc, Int.mul_comm LB]
  have a8 := lbpos y.length
  by_cases hc : c < LB
  · exact hc
  · exfalso
    have a9 : LB ^ (i + y.length) * LB ≤ LB ^ (i + y.length) * c := Int.mul_le_mul_of_nonneg_left (by omega) (Int.le_of_lt (lbpos _))
    omega

theorem row_next {x y out : List Int} {i k : Nat} {c n : Int} (hx : Lim x) (hy : Wid y) (hi : i < x.length) (h : RowPhi x y i k c out) (hb : k < y.length ∨ 0 < c) (hn : n = out.getD (i + k) 0 + c + x.getD i 0 * y.getD k 0) :
    i + k < x.length + y.length ∧ RowPhi x y i (k + 1) (IntKind.i64.wrap (n.tdiv 10000)) (out.set (i + k) (n.tmod 10000)) := by
  have hcar := row_carry hx hy h
  obtain ⟨h1, h2, h3, h4, h6, h7⟩ := h
  have ek := row_bound (hx.getD i) (hy.getD k) (h3.getD (i + k)) h4
  obtain ⟨d1, d2, d3, d4, d5, d6⟩ := digit (n := n) (by omega) (by omega)
  have e := hB
  have hq : n / LB ≤ LB := by rw [hB]; omega
  rw [d1, d2]
  have hkl : k ≤ y.length := by
    rcases h1 with h1 | ⟨h1, h0⟩
    · exact h1
    · omega
  have hin : i + k < x.length + y.length := by omega
  have hval : valL (out.set (i + k) (n % LB)) + LB ^ (i + (k + 1)) * (n / LB) = valL (x.take i) * valL y + LB ^ i * (x.getD i 0 * valL (y.take (k + 1))) := by
    rw [set_val (by omega), take_val, ← Nat.add_assoc, Int.pow_succ]
    have a1 : LB ^ (i + k) * (n % LB - out.getD (i + k) 0) + LB ^ (i + k) * LB * (n / LB) = LB ^ (i + k) * (n - out.getD (i + k) 0) := by
      rw [Int.mul_assoc, ← Int.mul_add]; congr 1; omega
    have a2 : n - out.getD (i + k) 0 = c + x.getD i 0 * y.getD k 0 := by omega
    have a3 : LB ^ (i + k) = LB ^ i * LB ^ k := Int.pow_add ..
    have a4 : LB ^ i * (x.getD i 0 * (valL (y.take k) + LB ^ k * y.getD k 0)) = LB ^ i * (x.getD i 0 * valL (y.take k)) + LB ^ (i + k) * (x.getD i 0 * y.getD k 0) := by
      rw [Int.mul_add, Int.mul_add, a3]
      congr 1
      rw [Int.mul_assoc, Int.mul_left_comm (x.getD i 0)]
    rw [a2, Int.mul_add] at a1
    omega
  refine ⟨hin, ?_, by simp [h2], set_lim h3 d3 d4, ⟨d5, hq⟩, hval, fun j hj => ?_⟩
  · by_cases hlt : k < y.length
    · exact .inl (by omega)
    · refine .inr ⟨by omega, ?_⟩
      have g1 : y.getD k 0 = 0 := getD_none (by omega)
      have g2 : out.getD (i + k) 0 = 0 := h7 _ (by omega)
      rw [g1, g2] at hn
      have hnc : n = c := by rw [hn]; omega
      rw [hnc]
      exact Int.ediv_eq_zero_of_lt h4.1 (hcar (by omega))
  · rw [getD_set_ne (by omega)]; exact h7 j (by omega)

theorem row_end {x y out : List Int} {i k : Nat} {c : Int} (hi : i < x.length) (h : RowPhi x y i k c out) (hb : ¬ (k < y.length ∨ 0 < c)) : TimesPhi x y (i + 1) out := by
  obtain ⟨h1, h2, h3, h4, h6, h7⟩ := h
  have hc : c = 0 := by omega
  rw [hc, Int.mul_zero, Int.add_zero, List.take_of_length_le (l := y) (by omega)] at h6
  refine ⟨by omega, h2, h3, ?_, fun j hj => h7 j (by omega)⟩
  rw [h6, take_val, Int.add_mul, Int.mul_assoc]

theorem times_fin {x y out : List Int} {i : Nat} (h : TimesPhi x y i out) (hi : ¬ i < x.length) : valL out = valL x * valL y := by
  have : i = x.length := by have := h.h1; omega
  rw [h.h4, this, List.take_length]

end Go.Cm.D
end

section
/- Texts of any length, read into digits of base 10000. No program is in sight here. -/
namespace Go.Cm
open Go.Proofs

/-- Right in its form, whatever its length. -/
def RF (s : List UInt8) : Prop := chk s ≠ 5

theorem form_ok {s : List UInt8} (h : RF s) : Digits (trimPre s [45]) ∧ 0 < (trimPre s [45]).length ∧ (s ≠ [48] → (trimPre s [45]).getD 0 0 ≠ 48) := by
  unfold RF chk at h
  by_cases h0 : s = [48]
  · subst h0
    refine ⟨?_, by decide, fun h => absurd rfl h⟩
    intro c hc
    have : trimPre [48] [45] = [48] := by decide
    rw [this] at hc
    simp at hc; subst hc; decide
  · rw [if_neg h0] at h
    by_cases h1 : (trimPre s [45]).length = 0 ∨ (trimPre s [45]).getD 0 0 = 48
    · rw [if_pos h1] at h; exact absurd rfl h
    · rw [if_neg h1] at h
      by_cases h2 : (trimPre s [45]).all isDig = false
      · rw [if_pos h2] at h; exact absurd rfl h
      · simp only [not_or] at h1
        refine ⟨fun c hc => ?_, by omega, fun _ => h1.2⟩
        have h3 : (trimPre s [45]).all isDig = true := by simpa using h2
        have := List.all_eq_true.1 h3 c hc
        simpa [isDig] using this

theorem form_text {s : List UInt8} (h : RF s) : Lib.itoa (numI s) = s := by
  obtain ⟨c1, c2, c4⟩ := form_ok h
  have hne : trimPre s [45] ≠ [] := by intro e; rw [e] at c2; simp at c2
  by_cases h48 : s = [48]
  · subst h48
    have e : numI [48] = 0 := by decide
    rw [e]
    simp [Lib.itoa, Lib.decDigits]
  · have h0 := c4 h48
    have hd := digits_dec c1 hne (.inl h0)
    have hpos : 0 < numOf (trimPre s [45]) := by
      by_cases hz : numOf (trimPre s [45]) = 0
      · exfalso
        rw [hz] at hd
        have h5 : Lib.decDigits 0 = [48] := by rw [Lib.decDigits]; rfl
        rw [h5] at hd
        rw [← hd] at h0
        exact h0 rfl
      · omega
    unfold numI Lib.itoa
    by_cases hp : hasPre s [45] = true
    · rw [if_pos hp, if_pos (by omega), show (-(numOf (trimPre s [45]) : Int)).natAbs = numOf (trimPre s [45]) by omega, hd]
      unfold trimPre
      rw [if_pos hp]
      unfold hasPre at hp
      simp only [Bool.and_eq_true, decide_eq_true_eq, beq_iff_eq] at hp
      match s, hp.2 with
      | c :: l, e => simp at e; rw [e]; rfl
      | [], e => simp at e
    · rw [if_neg hp, if_neg (by omega), Int.toNat_natCast, hd]
      unfold trimPre
      rw [if_neg hp]

theorem form_itoa (v : Int) : RF (Lib.itoa v) ∧ numI (Lib.itoa v) = v := by
  have h := itoa_facts v
  refine ⟨?_, h.2⟩
  unfold RF
  rw [h.1]
  split <;> decide

theorem form_ne {s : List UInt8} (h : RF s) : s ≠ [] := by rintro rfl; exact h (by decide)

/-- The first letter tells the sign. -/
theorem first_minus {s : List UInt8} (h : s ≠ []) : ((s.getD 0 0).toNat : Int) = 45 ↔ hasPre s [45] = true := by
  match s, h with
  | c :: l, _ =>
    show ((c.toNat : Nat) : Int) = 45 ↔ _
    unfold hasPre
    constructor
    · intro h
      have : c = 45 := by
        apply UInt8.toNat_inj.1
        show c.toNat = 45
        omega
      subst this; simp
    · intro h
      simp at h
      subst h; rfl

theorem form_neg {s : List UInt8} (h : RF s) : hasPre s [45] = true ↔ numI s < 0 := by
  obtain ⟨c1, c2, c4⟩ := form_ok h
  by_cases h48 : s = [48]
  · subst h48; decide
  have h0 := c4 h48
  have hne : trimPre s [45] ≠ [] := by intro e; rw [e] at c2; simp at c2
  have hd := digits_dec c1 hne (.inl h0)
  have hpos : 0 < numOf (trimPre s [45]) := by
    by_cases hz : numOf (trimPre s [45]) = 0
    · exfalso
      rw [hz] at hd
      have h5 : Lib.decDigits 0 = [48] := by rw [Lib.decDigits]; rfl
      rw [h5] at hd
      rw [← hd] at h0
      exact h0 rfl
    · omega
  unfold numI
  constructor
  · intro hp; rw [if_pos hp]; omega
  · intro hl
    by_cases hp : hasPre s [45] = true
    · exact hp
    · rw [if_neg hp] at hl; omega

theorem numI_trim (s : List UInt8) : (numI s).natAbs = numOf (trimPre s [45]) := by unfold numI; split <;> omega

namespace D

/-- After r rounds of reading. -/
def ReadPhi (D : List UInt8) (r : Nat) (out : List Int) : Prop :=
  out.length = r ∧ Lim out ∧ valL out = (numOf (D.drop (D.length - 4 * r)) : Int) ∧ 4 * r < D.length + 4

theorem read_start {D : List UInt8} : ReadPhi D 0 [] := by
  refine ⟨rfl, fun x hx => by simp at hx, ?_, by omega⟩
  simp [valL, numOf]

theorem pow4 (r : Nat) : (LB ^ r : Int) = ((10 ^ (4 * r) : Nat) : Int) := by
  rw [Nat.pow_mul]
  show (10000 : Int) ^ r = ((10000 ^ r : Nat) : Int)
  rw [Int.natCast_pow]; rfl

/-- Some letters of a text, as a number. -/
def part (D : List UInt8) (lo i : Nat) : Int := (numOf ((D.take i).drop lo) : Int)

theorem part_start (D : List UInt8) (lo : Nat) : part D lo lo = 0 := by
  unfold part
  rw [List.drop_of_length_le (by rw [List.length_take]; omega)]; rfl

theorem part_lt {D : List UInt8} (hd : Digits D) (lo i : Nat) (h : i ≤ lo + 4) : 0 ≤ part D lo i ∧ part D lo i < LB := by
  have hdc : Digits ((D.take i).drop lo) := fun x hx => hd x (List.mem_of_mem_take (List.mem_of_mem_drop hx))
  have h1 := numOf_lt hdc
  have h2 : 10 ^ ((D.take i).drop lo).length ≤ 10 ^ 4 := Nat.pow_le_pow_right (by omega) (by rw [List.length_drop, List.length_take]; omega)
  unfold part
  rw [hB]
  omega

theorem part_next {D : List UInt8} (hd : Digits D) {lo i : Nat} (hlo : lo ≤ i) (hi : i < D.length) (h4 : i < lo + 4) :
    IntKind.i64.wrap (IntKind.i64.wrap (10 * part D lo i) + IntKind.i64.wrap (IntKind.u8.wrap (((D.getD i 0).toNat : Int) - 48))) = part D lo (i + 1) := by
  have hc := hd (D.getD i 0) (by rw [List.getD_eq_getElem?_getD, List.getElem?_eq_getElem hi]; exact List.getElem_mem hi)
  have hb := part_lt hd lo i (by omega)
  have e := hB
  have e1 : IntKind.u8.wrap (((D.getD i 0).toNat : Int) - 48) = ((D.getD i 0).toNat : Int) - 48 := IntWalk.u8_in _ (by omega)
  rw [e1, wi (x := 10 * part D lo i) (by omega) (by omega), wi (x := ((D.getD i 0).toNat : Int) - 48) (by omega) (by omega), wi (by omega) (by omega)]
  unfold part at hb ⊢
  have h2 : (D.take (i + 1)).drop lo = (D.take i).drop lo ++ [D.getD i 0] := by
    rw [List.take_add_one, List.drop_append, List.length_take, Nat.min_eq_left (by omega), show lo - i = 0 by omega, List.drop_zero, List.getElem?_eq_getElem hi]
    simp [List.getD_eq_getElem?_getD, List.getElem?_eq_getElem hi]
  rw [h2, numOf_append]
  have h3 : numOf [D.getD i 0] = (D.getD i 0).toNat - 48 := by simp [numOf]
  have h6 : [D.getD i 0].length = 1 := rfl
  rw [h3, h6, Nat.pow_one]
  omega

theorem read_next {D : List UInt8} {r : Nat} {out : List Int} (hd : Digits D) (h : ReadPhi D r out) (hr : 4 * r < D.length) :
    ReadPhi D (r + 1) (out ++ [part D (D.length - 4 * (r + 1)) (D.length - 4 * r)]) := by
  obtain ⟨h1, h2, h3, h4⟩ := h
  have hb := part_lt hd (D.length - 4 * (r + 1)) (D.length - 4 * r) (by omega)
  refine ⟨by simp [h1], h2.append (Lim.one hb.1 hb.2), ?_, by omega⟩
  rw [valL_append, valL_one, h1, h3, pow4]
  unfold part
  have e : D.drop (D.length - 4 * (r + 1)) = (D.take (D.length - 4 * r)).drop (D.length - 4 * (r + 1)) ++ D.drop (D.length - 4 * r) := by
    have e0 : D.drop (D.length - 4 * (r + 1)) = (D.take (D.length - 4 * r) ++ D.drop (D.length - 4 * r)).drop (D.length - 4 * (r + 1)) := by rw [List.take_append_drop]
    rw [e0, List.drop_append, List.length_take, Nat.min_eq_left (by omega), show D.length - 4 * (r + 1) - (D.length - 4 * r) = 0 by omega, List.drop_zero]
  rw [e, numOf_append, List.length_drop, show D.length - (D.length - 4 * r) = 4 * r by omega]
  rw [Int.natCast_add, Int.natCast_mul, Int.add_comm, Int.mul_comm]

theorem read_end {s : List UInt8} {r : Nat} {out : List Int} (h : ReadPhi (trimPre s [45]) r out) (hr : ¬ 4 * r < (trimPre s [45]).length) : (valL out).toNat = (numI s).natAbs ∧ Lim out := by
  obtain ⟨h1, h2, h3, h4⟩ := h
  rw [show (trimPre s [45]).length - 4 * r = 0 by omega, List.drop_zero] at h3
  rw [h3, numI_trim]
  exact ⟨by simp, h2⟩

/-! ### Digits written -/

/-- A number's decimal digits, none for 0. -/
def dd (a : Nat) : List UInt8 := if a = 0 then [] else Lib.decDigits a

theorem dd_next (a c : Nat) (hc : c < 10) : dd (10 * a + c) = if a = 0 ∧ c = 0 then [] else dd a ++ [UInt8.ofNat (48 + c)] := by
  unfold dd
  by_cases ha : a = 0
  · subst ha
    by_cases h0 : c = 0
    · subst h0; simp
    · rw [if_neg (by omega), if_neg (by omega), if_pos rfl, Lib.decDigits, dif_pos (by omega)]
      simp
  · rw [if_neg (by omega), if_neg (by omega), if_neg ha, Lib.decDigits, dif_neg (by omega), show (10 * a + c) / 10 = a by omega, show (10 * a + c) % 10 = c by omega]

/-- What is written of the digits above a place, and of some decimals of the digit there. -/
def wr (d : List Int) (i j : Nat) : Nat := (valL (d.drop (i + 1))).toNat * 10 ^ j + (d.getD i 0).toNat / 10 ^ (4 - j)

/-- The units: 1000, 100, 10, 1, 0. -/
def unit (j : Nat) : Int := if j < 4 then ((10 ^ (3 - j) : Nat) : Int) else 0

theorem unit_next {j : Nat} (h : j < 4) : IntKind.i64.wrap ((unit j).tdiv 10) = unit (j + 1) ∧ 0 < unit j := by
  have : j = 0 ∨ j = 1 ∨ j = 2 ∨ j = 3 := by omega
  rcases this with rfl | rfl | rfl | rfl <;> decide

/-- One decimal. -/
def decimal (x : Int) (j : Nat) : Nat := x.toNat / 10 ^ (3 - j) % 10

theorem decimal_code {x : Int} {j : Nat} (hx : 0 ≤ x ∧ x < LB) (h : j < 4) : IntKind.u8.wrap (IntKind.i64.wrap (48 + (IntKind.i64.wrap (x.tdiv (unit j))).tmod 10)) = ((48 + decimal x j : Nat) : Int) := by
  have e := hB
  have hu := (unit_next h).2
  have h1 : x.tdiv (unit j) = ((x.toNat / 10 ^ (3 - j) : Nat) : Int) := by
    unfold unit
    rw [if_pos h, Int.tdiv_eq_ediv_of_nonneg hx.1]
    conv => lhs; rw [← Int.toNat_of_nonneg hx.1]
    rfl
  have h2 : x.toNat / 10 ^ (3 - j) ≤ x.toNat := Nat.div_le_self _ _
  have h3 : ((x.toNat / 10 ^ (3 - j) : Nat) : Int).tmod 10 = ((decimal x j : Nat) : Int) := by
    unfold decimal
    rw [Int.tmod_eq_emod_of_nonneg (Int.natCast_nonneg _)]; rfl
  obtain ⟨q, hq⟩ : ∃ q, q = x.toNat / 10 ^ (3 - j) := ⟨_, rfl⟩
  rw [← hq] at h1 h2 h3
  rw [h1, wi (x := (q : Int)) (by omega) (by omega)]
  have h4 : decimal x j < 10 := Nat.mod_lt _ (by decide)
  rw [h3, wi (by omega) (by omega)]
  have : IntKind.u8.wrap (48 + ((decimal x j : Nat) : Int)) = 48 + ((decimal x j : Nat) : Int) := IntWalk.u8_in _ (by omega)
  rw [this]; omega

theorem wr_next {d : List Int} (hd : Lim d) (i : Nat) {j : Nat} (h : j < 4) : wr d i (j + 1) = 10 * wr d i j + decimal (d.getD i 0) j := by
  have hx := hd.getD i
  have e := hB
  unfold wr decimal
  generalize (valL (d.drop (i + 1))).toNat = v
  generalize hX : (d.getD i 0).toNat = X
  have : j = 0 ∨ j = 1 ∨ j = 2 ∨ j = 3 := by omega
  rcases this with rfl | rfl | rfl | rfl <;> simp <;> omega

theorem wr_first {d : List Int} (hd : Lim d) (i : Nat) : wr d i 0 = (valL (d.drop (i + 1))).toNat := by
  have hx := hd.getD i
  have e := hB
  unfold wr
  have : (d.getD i 0).toNat / 10 ^ 4 = 0 := Nat.div_eq_of_lt (by omega)
  simp at this ⊢
  exact this

theorem wr_last {d : List Int} (hd : Lim d) {i : Nat} (hi : i < d.length) : wr d i 4 = (valL (d.drop i)).toNat := by
  have hx := hd.getD i
  have hv := valL_nonneg (l := d.drop (i + 1)) (fun x hx => hd x (List.mem_of_mem_drop hx))
  have e := hB
  have e2 : d.drop i = d.getD i 0 :: d.drop (i + 1) := by
    rw [List.drop_eq_getElem_cons hi, List.getD_eq_getElem?_getD, List.getElem?_eq_getElem hi]; rfl
  rw [e2]
  unfold wr
  simp only [valL]
  rw [e]
  generalize valL (d.drop (i + 1)) = v at hv
  have e5 : (d.getD i 0).toNat / 10 ^ (4 - 4) = (d.getD i 0).toNat := Nat.div_one _
  have e6 : (10 : Nat) ^ 4 = 10000 := rfl
  rw [e5, e6]
  omega

/-- What is written so far, as letters. -/
structure WritePhi (d : List Int) (i j : Nat) (out : List Int) : Prop where
  hj : j ≤ 4
  ho : out = (dd (wr d i j)).map fun b => (b.toNat : Int)

theorem write_start {d : List Int} (hd : Lim d) {i : Nat} {out : List Int} (h : out = (dd (valL (d.drop (i + 1))).toNat).map fun b => (b.toNat : Int)) : WritePhi d i 0 out :=
  ⟨by omega, by rw [wr_first hd]; exact h⟩

theorem dd_nil {a : Nat} : dd a = [] ↔ a = 0 := by
  unfold dd
  constructor
  · intro h
    by_cases h0 : a = 0
    · exact h0
    · rw [if_neg h0] at h
      exact absurd h (dec_digits a).2.2.1
  · intro h; rw [if_pos h]

theorem write_take {d : List Int} (hd : Lim d) {i j : Nat} {out : List Int} (h : WritePhi d i j out) (hj : j < 4) (hb : 0 < out.length ∨ ((48 + decimal (d.getD i 0) j : Nat) : Int) ≠ 48) :
    WritePhi d i (j + 1) (out ++ [((48 + decimal (d.getD i 0) j : Nat) : Int)]) := by
  have hc : decimal (d.getD i 0) j < 10 := Nat.mod_lt _ (by decide)
  refine ⟨hj, ?_⟩
  rw [wr_next hd i hj, dd_next _ _ hc, h.ho, if_neg]
  · rw [List.map_append]
    congr 1
    simp only [List.map_cons, List.map_nil, List.cons.injEq, and_true]
    rw [dig_char hc]
  · rintro ⟨h1, h2⟩
    rcases hb with hb | hb
    · rw [h.ho, h1] at hb
      simp [dd] at hb
    · rw [h2] at hb; exact hb rfl

theorem write_leave {d : List Int} (hd : Lim d) {i j : Nat} {out : List Int} (h : WritePhi d i j out) (hj : j < 4) (hb : ¬ (0 < out.length ∨ ((48 + decimal (d.getD i 0) j : Nat) : Int) ≠ 48)) :
    WritePhi d i (j + 1) out := by
  have hc : decimal (d.getD i 0) j < 10 := Nat.mod_lt _ (by decide)
  simp only [not_or] at hb
  have h0 : out = [] := List.eq_nil_of_length_eq_zero (by omega)
  have h1 : wr d i j = 0 := by
    have := h.ho
    rw [h0] at this
    exact dd_nil.1 (List.map_eq_nil_iff.1 this.symm)
  have h2 : decimal (d.getD i 0) j = 0 := by omega
  refine ⟨hj, ?_⟩
  rw [wr_next hd i hj, h1, h2, h0]
  rfl

theorem write_round {d : List Int} (hd : Lim d) {i : Nat} (hi : i < d.length) {out : List Int} (h : WritePhi d i 4 out) : out = (dd (valL (d.drop i)).toNat).map fun b => (b.toNat : Int) := by
  rw [← wr_last hd hi]; exact h.ho

theorem str_of_map (l : List UInt8) : strOf (l.map fun b => (b.toNat : Int)) = l := by
  unfold strOf
  rw [List.map_map]
  conv => rhs; rw [← List.map_id l]
  apply List.map_congr_left
  intro b _
  show UInt8.ofNat ((b.toNat : Int).toNat) = b
  rw [Int.toNat_natCast, UInt8.ofNat_toNat]

theorem write_text {d : List Int} (hd : Cano d) (hne : d ≠ []) : dd (valL d).toNat = Lib.itoa (valL d) := by
  have hp := (valL_pos hd).2 hne
  unfold dd Lib.itoa
  rw [if_neg (by omega), if_neg (by omega)]

theorem write_minus {d : List Int} (hd : Cano d) (hne : d ≠ []) : 45 :: dd (valL d).toNat = Lib.itoa (-valL d) := by
  have hp := (valL_pos hd).2 hne
  unfold dd Lib.itoa
  rw [if_neg (by omega), if_pos (by omega)]
  congr 2
  omega

theorem dd_len {d : List Int} (hd : Lim d) : (dd (valL d).toNat).length ≤ 4 * d.length := by
  by_cases h0 : (valL d).toNat = 0
  · rw [dd_nil.2 h0]; simp
  · have h1 := valL_lt hd
    have h2 := valL_nonneg hd
    rw [pow4] at h1
    have := ndig_le (n := valL d) (k := 4 * d.length) (by
      cases d with
      | nil => simp [valL] at h0
      | cons x l => simp) (by omega)
    rw [ndig_itoa] at this
    unfold dd
    rw [if_neg h0]
    have e : (valL d).natAbs = (valL d).toNat := by omega
    rw [e] at this
    omega

end D
end Go.Cm
end

section
/- Signs and lengths of right texts. No program is in sight here. -/
namespace Go.Cm
open Go.Proofs

theorem form_len {s : List UInt8} (h : RF s) : (0 : Int) < (s.length : Int) := by
  have := form_ne h
  have := List.length_pos_iff.2 this
  omega

theorem form_first {s : List UInt8} (h : RF s) : (((s.getD (Int.toNat 0) 0).toNat : Int) == 45) = decide (numI s < 0) := by
  have h1 := first_minus (form_ne h)
  have h2 := form_neg h
  have e : Int.toNat 0 = 0 := rfl
  rw [e, Bool.eq_iff_iff, beq_iff_eq, decide_eq_true_eq]
  exact h1.trans h2

theorem trim_neg {s : List UInt8} (h : RF s) (h0 : ((s.getD (Int.toNat 0) 0).toNat : Int) = 45) : List.drop (Int.toNat 1) (List.take ((s.length : Int)).toNat s) = trimPre s [45] ∧ (trimPre s [45]).length + 1 = s.length := by
  have h1 := (first_minus (form_ne h)).1 h0
  have hl := form_len h
  unfold trimPre
  rw [if_pos h1, Int.toNat_natCast, List.take_length]
  exact ⟨rfl, by rw [List.length_drop]; show s.length - 1 + 1 = _; omega⟩

theorem trim_pos {s : List UInt8} (h : RF s) (h0 : ((s.getD (Int.toNat 0) 0).toNat : Int) ≠ 45) : s = trimPre s [45] := by
  unfold trimPre
  rw [if_neg (fun h1 => h0 ((first_minus (form_ne h)).2 h1))]

theorem form_ndig {s : List UInt8} (h : RF s) : ndig (numI s) = ((trimPre s [45]).length : Int) := by
  obtain ⟨c1, c2, c4⟩ := form_ok h
  have hne : trimPre s [45] ≠ [] := by intro e; rw [e] at c2; simp at c2
  rw [ndig_itoa, numI_trim]
  by_cases h48 : s = [48]
  · subst h48
    have e1 : trimPre [48] [45] = [48] := by decide
    have e2 : numOf [48] = 0 := by decide
    rw [e1, e2, Lib.decDigits]; rfl
  · rw [digits_dec c1 hne (.inl (c4 h48))]

namespace D

theorem unit_pos {j : Nat} (h : 0 < unit j) : j < 4 := by
  by_cases hj : j < 4
  · exact hj
  · unfold unit at h; rw [if_neg hj] at h; exact absurd h (by decide)
theorem unit_end {j : Nat} (h : ¬ 0 < unit j) : ¬ j < 4 := fun hj => h (unit_next hj).2
theorem write_phi0 (d : List Int) : d.length ≤ d.length ∧ ([] : List Int) = (dd (valL (d.drop d.length)).toNat).map fun b => (b.toNat : Int) := by
  refine ⟨Nat.le_refl _, ?_⟩
  rw [List.drop_length]; rfl

theorem write_nil {d : List Int} {neg : Bool} (h : (d.length : Int) = 0) : [48] = Lib.itoa (if neg = true then - valL d else valL d) := by
  have : d = [] := List.eq_nil_of_length_eq_zero (by omega)
  subst this
  have e : Lib.itoa 0 = [48] := by rw [Lib.itoa, if_neg (by decide)]; show Lib.decDigits 0 = _; rw [Lib.decDigits]; rfl
  cases neg <;> simp [valL, e]
theorem cond_t {out : List Int} {x : Int} (h : (decide ((0 : Int) < (out.length : Int)) || x != 48) = true) : 0 < out.length ∨ x ≠ 48 := by
  simp only [Bool.or_eq_true, decide_eq_true_eq, bne_iff_ne] at h
  rcases h with h | h
  · exact .inl (by omega)
  · exact .inr h
theorem cond_f {out : List Int} {x : Int} (h : (decide ((0 : Int) < (out.length : Int)) || x != 48) = false) : ¬ (0 < out.length ∨ x ≠ 48) := by
  simp only [Bool.or_eq_false_iff, decide_eq_false_iff_not, bne_eq_false_iff_eq] at h
  rintro (h1 | h1)
  · omega
  · exact h1 h.2
theorem wr_mono {d : List Int} (hd : Lim d) (i : Nat) : ∀ n j, j + n = 4 → wr d i j ≤ wr d i 4
  | 0, j, h => by rw [show j = 4 by omega]; exact Nat.le_refl _
  | n + 1, j, h => by
    have h1 := wr_mono hd i n (j + 1) (by omega)
    have h2 := wr_next hd i (j := j) (by omega)
    omega
theorem dd_lt {a k : Nat} (h : a < 10 ^ k) : (dd a).length ≤ k := by
  unfold dd
  by_cases h0 : a = 0
  · rw [if_pos h0]; simp
  · rw [if_neg h0]
    have hk : 0 < k := by
      rcases Nat.eq_zero_or_pos k with e | e
      · rw [e] at h; simp at h; omega
      · exact e
    have := ndig_le (n := (a : Int)) (k := k) hk (by simpa using h)
    rw [ndig_itoa, Int.natAbs_natCast] at this
    omega
theorem write_len {d : List Int} (hd : Lim d) {i j : Nat} {out : List Int} (h : WritePhi d i j out) (hi : i < d.length) : out.length ≤ 4 * d.length := by
  have h1 := wr_mono hd i (4 - j) j (by have := h.hj; omega)
  rw [wr_last hd hi] at h1
  have hl : Lim (d.drop i) := fun x hx => hd x (List.mem_of_mem_drop hx)
  have h2 := valL_lt hl
  have h3 := valL_nonneg hl
  rw [pow4] at h2
  have h4 : wr d i j < 10 ^ (4 * (d.drop i).length) := by omega
  have h5 := dd_lt h4
  rw [h.ho, List.length_map]
  rw [List.length_drop] at h5
  omega

theorem read_le0 {D : List UInt8} {r : Nat} (hr : 4 * r < D.length) (hl : D.length < 1000000000000) : 0 = part D (D.length - 4 * (r + 1)) (D.length - 4 * (r + 1)) ∧ max 0 (IntKind.i64.wrap ((D.length : Int) - 4 * (r : Int) - 4)) = ((D.length - 4 * (r + 1) : Nat) : Int) := by
  refine ⟨(part_start _ _).symm, ?_⟩
  rw [wi (by omega) (by omega)]
  omega

theorem valL_limbs {s : List UInt8} {r : Nat} {out : List Int} (h : ReadPhi (trimPre s [45]) r out) (hr : ¬ 4 * r < (trimPre s [45]).length) : limbs (valL out).toNat = limbs (numI s).natAbs := by
  rw [(read_end h hr).1]

end D
end Go.Cm
end

section
/- The reference's small functions on texts. No program is in sight here. -/
namespace Go.Cm
open Go.Proofs

theorem right_neg {s : List UInt8} (h : (0 : Int) < (s.length : Int) ∧ ((s.getD (Int.toNat 0) 0).toNat : Int) = 45) : List.drop (Int.toNat 1) (List.take ((s.length : Int)).toNat s) = trimPre s [45] := by
  have hne : s ≠ [] := by rintro rfl; simp at h
  have h1 := (first_minus hne).1 h.2
  unfold trimPre
  rw [if_pos h1, Int.toNat_natCast, List.take_length]; rfl
theorem right_pos {s : List UInt8} (h : (0 : Int) < (s.length : Int) → ((s.getD (Int.toNat 0) 0).toNat : Int) ≠ 45) : s = trimPre s [45] := by
  unfold trimPre
  by_cases hne : s = []
  · subst hne; rfl
  · rw [if_neg (fun h1 => h (by have := List.length_pos_iff.2 hne; omega) ((first_minus hne).2 h1))]
theorem right_48 {s : List UInt8} (h : s = [48]) : true = decide (chk s ≠ 5) := by subst h; decide
theorem first_48 {D : List UInt8} : (((D.length : Int) == 0) || (((D.getD (Int.toNat 0) 0).toNat : Int) == 48)) = true ↔ (D = [] ∨ D.getD 0 0 = 48) := by
  simp only [Bool.or_eq_true, beq_iff_eq]
  have e : Int.toNat 0 = 0 := rfl
  rw [e]
  constructor
  · rintro (h | h)
    · exact .inl (List.eq_nil_of_length_eq_zero (by omega))
    · right
      apply UInt8.toNat_inj.1
      show (D.getD 0 0).toNat = 48
      omega
  · rintro (h | h)
    · left; subst h; rfl
    · right; rw [h]; rfl
theorem right_first {s : List UInt8} (h0 : s ≠ [48]) (h : ((((trimPre s [45]).length : Int) == 0) || ((((trimPre s [45]).getD (Int.toNat 0) 0).toNat : Int) == 48)) = true) : false = decide (chk s ≠ 5) := by
  rw [chk_first h0 (first_48.1 h)]; decide
theorem right_mid {s : List UInt8} (h : ((((trimPre s [45]).length : Int) == 0) || ((((trimPre s [45]).getD (Int.toNat 0) 0).toNat : Int) == 48)) = false) : ¬ (trimPre s [45] = [] ∨ (trimPre s [45]).getD 0 0 = 48) := by
  intro h1
  rw [first_48.2 h1] at h; cases h
theorem idx_len (D : List UInt8) : ((!((D.length : Int) == 0)) = true → (!((D.length : Int) == 0)) = true ∧ (0 : Int) ≤ 0 ∧ (0 : Int) < (D.length : Int)) ∧ ((!((D.length : Int) == 0)) = true → (!((D.length : Int) == 0)) = true) ∧ (((D.length : Int) == 0) = false → (!((D.length : Int) == 0)) = true) := by
  refine ⟨fun h => ⟨h, by omega, ?_⟩, fun h => h, fun h => by rw [h]; rfl⟩
  simp only [Bool.not_eq_true', beq_eq_false_iff_ne, ne_eq] at h
  omega
theorem dig_code {x : Int} : (decide (x < 48) || decide (57 < x)) = true ↔ (x < 48 ∨ 57 < x) := by simp
theorem right_bad {s : List UInt8} {k : Nat} (h0 : s ≠ [48]) (h1 : ¬ (trimPre s [45] = [] ∨ (trimPre s [45]).getD 0 0 = 48)) (hk : (k : Int) < ((trimPre s [45]).length : Int))
    (h : (decide ((((trimPre s [45]).getD ((k : Int)).toNat 0).toNat : Int) < 48) || decide ((57 : Int) < (((trimPre s [45]).getD ((k : Int)).toNat 0).toNat : Int))) = true) : false = decide (chk s ≠ 5) := by
  rw [Int.toNat_natCast, dig_code] at h
  rw [chk_bad h0 h1 (k := k) (by omega) (by omega)]
  decide
theorem right_good {D : List UInt8} {k : Nat} (hk : (k : Int) < (D.length : Int)) (h : (decide (((D.getD ((k : Int)).toNat 0).toNat : Int) < 48) || decide ((57 : Int) < ((D.getD ((k : Int)).toNat 0).toNat : Int))) = false) (g : (D.take k).all isDig = true) : (D.take (k + 1)).all isDig = true := by
  rw [Int.toNat_natCast] at h
  have h2 : ¬ (((D.getD k 0).toNat : Int) < 48 ∨ (57 : Int) < ((D.getD k 0).toNat : Int)) := by
    intro h3
    rw [dig_code.2 h3] at h; cases h
  exact all_take_succ g (isDig_of (fun h3 => h2 (.inl h3)) (fun h3 => h2 (.inr h3)))
theorem right_end {s : List UInt8} {k : Nat} (h0 : s ≠ [48]) (h1 : ¬ (trimPre s [45] = [] ∨ (trimPre s [45]).getD 0 0 = 48)) (hk : ¬ (k : Int) < ((trimPre s [45]).length : Int)) (g : ((trimPre s [45]).take k).all isDig = true) : true = decide (chk s ≠ 5) := by
  rw [List.take_of_length_le (by omega)] at g
  rw [chk_good h0 h1 g]
  split <;> decide

theorem chk_ndig {s : List UInt8} (h : RF s) : chk s = if 2000 < ndig (numI s) then 6 else 0 := by
  have h1 := itoa_facts (numI s)
  rw [form_text h] at h1
  exact h1.1

theorem rf_limbs {s : List UInt8} (h : RF s) : (D.limbs (numI s).natAbs).length ≤ s.length := by
  have h1 := numOf_lt (form_ok h).1
  rw [← numI_trim] at h1
  have hl := trim_len s [45]
  refine D.limbs_len ?_
  rw [D.pow4]
  have h2 : 10 ^ (trimPre s [45]).length ≤ 10 ^ (4 * s.length) := Nat.pow_le_pow_right (by omega) (by omega)
  omega

theorem rf_zero {s : List UInt8} (h : RF s) : numI s = 0 ↔ s = [48] := by
  constructor
  · intro h0
    have h1 := form_text h
    rw [h0] at h1
    rw [← h1, Lib.itoa, if_neg (by decide)]
    show Lib.decDigits 0 = _
    rw [Lib.decDigits]; rfl
  · rintro rfl; decide

theorem neg_val (v : Int) : Lib.itoa (if (!decide (v < 0)) = true then - D.valL (D.limbs v.natAbs) else D.valL (D.limbs v.natAbs)) = Lib.itoa (-v) := by
  rw [D.limbs_val]
  congr 1
  by_cases h : v < 0
  · simp [h]; omega
  · simp [h]; omega

theorem cmp_neg0 {x : Int} (h : x < 0) : cmpI x 0 = -1 := by unfold cmpI; rw [if_pos h]
theorem cmp_pos0 {x : Int} (h : 0 < x) : cmpI x 0 = 1 := by unfold cmpI; rw [if_neg (by omega), if_pos h]
theorem cmp_lt {x y : Int} (h : x < y) : cmpI x y = -1 := by unfold cmpI; rw [if_pos h]
theorem cmp_gt {x y : Int} (h : y < x) : cmpI x y = 1 := by unfold cmpI; rw [if_neg (by omega), if_pos h]
theorem cmp_zero : cmpI 0 0 = 0 := rfl

theorem cmp_sign {x y : Int} (h : cmpI x 0 ≠ cmpI y 0) : (cmpI x 0 < cmpI y 0 → -1 = cmpI x y) ∧ (¬ cmpI x 0 < cmpI y 0 → 1 = cmpI x y) := by
  rcases Int.lt_trichotomy x 0 with hx | hx | hx <;> rcases Int.lt_trichotomy y 0 with hy | hy | hy
  · rw [cmp_neg0 hx, cmp_neg0 hy] at h; exact absurd rfl h
  · subst hy; rw [cmp_neg0 hx, cmp_zero]; exact ⟨fun _ => rfl, fun h => absurd (by decide) h⟩
  · rw [cmp_neg0 hx, cmp_pos0 hy]; exact ⟨fun _ => (cmp_lt (by omega)).symm, fun h => absurd (by decide) h⟩
  · subst hx; rw [cmp_neg0 hy, cmp_zero]; exact ⟨fun h => absurd h (by decide), fun _ => (cmp_gt hy).symm⟩
  · subst hx hy; exact absurd rfl h
  · subst hx; rw [cmp_pos0 hy, cmp_zero]; exact ⟨fun _ => (cmp_lt hy).symm, fun h => absurd (by decide) h⟩
  · rw [cmp_pos0 hx, cmp_neg0 hy]; exact ⟨fun h => absurd h (by decide), fun _ => (cmp_gt (by omega)).symm⟩
  · subst hy; rw [cmp_pos0 hx, cmp_zero]; exact ⟨fun h => absurd h (by decide), fun _ => rfl⟩
  · rw [cmp_pos0 hx, cmp_pos0 hy] at h; exact absurd rfl h

theorem cmp_mag {x y : Int} (h : cmpI x 0 = cmpI y 0) : (x < 0 → cmpI (D.valL (D.limbs y.natAbs)) (D.valL (D.limbs x.natAbs)) = cmpI x y) ∧ (¬ x < 0 → cmpI (D.valL (D.limbs x.natAbs)) (D.valL (D.limbs y.natAbs)) = cmpI x y) := by
  rw [D.limbs_val, D.limbs_val]
  have hs : (x < 0 ↔ y < 0) ∧ (x = 0 ↔ y = 0) := by
    rcases Int.lt_trichotomy x 0 with hx | hx | hx <;> rcases Int.lt_trichotomy y 0 with hy | hy | hy
    · omega
    · subst hy; rw [cmp_neg0 hx, cmp_zero] at h; cases h
    · rw [cmp_neg0 hx, cmp_pos0 hy] at h; cases h
    · subst hx; rw [cmp_neg0 hy, cmp_zero] at h; cases h
    · omega
    · subst hx; rw [cmp_pos0 hy, cmp_zero] at h; cases h
    · rw [cmp_pos0 hx, cmp_neg0 hy] at h; cases h
    · subst hy; rw [cmp_pos0 hx, cmp_zero] at h; cases h
    · omega
  constructor
  · intro h1
    unfold cmpI
    by_cases h2 : x < y
    · rw [if_pos (by omega), if_pos h2]
    · by_cases h3 : y < x
      · rw [if_neg (by omega), if_pos (by omega), if_neg h2, if_pos h3]
      · rw [if_neg (by omega), if_neg (by omega), if_neg h2, if_neg h3]
  · intro h1
    unfold cmpI
    by_cases h2 : x < y
    · rw [if_pos (by omega), if_pos h2]
    · by_cases h3 : y < x
      · rw [if_neg (by omega), if_pos (by omega), if_neg h2, if_pos h3]
      · rw [if_neg (by omega), if_neg (by omega), if_neg h2, if_neg h3]

theorem rf_short {s : List UInt8} (h : RF s) (hl : s.length ≤ 9) : chk s = 0 := by
  have h1 := chk_ndig h
  rw [form_ndig h] at h1
  have := trim_len s [45]
  rw [if_neg (by omega)] at h1
  exact h1

theorem sign_val {s : List UInt8} (h : RF s) : (s = [48] → 0 = cmpI (numI s) 0) ∧ (s ≠ [48] → numI s < 0 → -1 = cmpI (numI s) 0) ∧ (s ≠ [48] → ¬ numI s < 0 → 1 = cmpI (numI s) 0) := by
  refine ⟨fun h0 => ?_, fun h0 h1 => ?_, fun h0 h1 => ?_⟩
  · rw [(rf_zero h).2 h0]; rfl
  · unfold cmpI; rw [if_pos h1]
  · have hne : numI s ≠ 0 := fun e => h0 ((rf_zero h).1 e)
    exact (cmp_pos0 (by omega)).symm

/-- Small enough for a machine integer. -/
theorem small_i64 {s : List UInt8} (h : RF s) (hl : s.length ≤ 9) : -1000000000 < numI s ∧ numI s < 1000000000 := by
  have h1 := numOf_lt (form_ok h).1
  rw [← numI_trim] at h1
  have hl := trim_len s [45]
  have h2 : 10 ^ (trimPre s [45]).length ≤ 10 ^ 9 := Nat.pow_le_pow_right (by omega) (by omega)
  omega

end Go.Cm
end

section
/- Long division by halving, digit by digit. No program is in sight here. -/
namespace Go.Cm.D
open Go.Cm

theorem drop_lim {l : List Int} (h : Lim l) (k : Nat) : Lim (l.drop k) := fun x hx => h x (List.mem_of_mem_drop hx)
theorem drop_can {l : List Int} (h : Cano l) (k : Nat) : Cano (l.drop k) := by
  refine ⟨drop_lim h.1 k, ?_⟩
  by_cases hk : k < l.length
  · have hne : l.drop k ≠ [] := by
      intro e
      have := congrArg List.length e
      rw [List.length_drop] at this; simp at this; omega
    have := getLastD_append (a := l.take k) (d := 1) hne
    rw [List.take_append_drop] at this
    rw [← this]; exact h.2
  · rw [List.drop_of_length_le (by omega)]; simp
theorem drop_val {l : List Int} {k : Nat} (h : k < l.length) : valL (l.drop k) = l.getD k 0 + LB * valL (l.drop (k + 1)) := by
  rw [List.drop_eq_getElem_cons h, List.getD_eq_getElem?_getD, List.getElem?_eq_getElem h]; rfl
theorem drop_val' {l : List Int} (k : Nat) : valL (l.drop k) = l.getD k 0 + LB * valL (l.drop (k + 1)) := by
  by_cases h : k < l.length
  · exact drop_val h
  · rw [List.drop_of_length_le (by omega), List.drop_of_length_le (by omega), getD_none (by omega)]; simp [valL]

structure DivPhi (a b : List Int) (k : Nat) (q rest : List Int) : Prop where
  hk : k ≤ q.length
  hq : q.length + b.length = a.length + 1
  hl : Lim q
  hr : rest = limbs (valL (a.drop k) % valL b).toNat
  hv : valL (q.drop k) = valL (a.drop k) / valL b

theorem div_start {a b : List Int} {n : Nat} (ha : Cano a) (hb : Cano b) (hne : b ≠ []) (hn : b.length = n + 1) (hlt : n < a.length) : DivPhi a b (a.length - n) (List.replicate (a.length - n) 0) (a.drop (a.length - n)) := by
  have hbge := valL_ge hb hne
  rw [hn, Nat.add_sub_cancel] at hbge
  have hac := drop_can ha (a.length - n)
  have hal := valL_lt hac.1
  have ha0 := valL_nonneg hac.1
  have hlen : (a.drop (a.length - n)).length = n := by rw [List.length_drop]; omega
  rw [hlen] at hal
  refine ⟨by simp, by simp; omega, (replicate_zero _).1, ?_, ?_⟩
  · rw [Int.emod_eq_of_lt ha0 (by omega)]
    exact hac.limbs (by omega)
  · rw [List.drop_of_length_le (by simp), Int.ediv_eq_zero_of_lt ha0 (by omega)]; rfl

theorem mod_bounds {x y : Int} (h : 0 < y) : 0 ≤ x % y ∧ x % y < y := ⟨Int.emod_nonneg _ (by omega), Int.emod_lt_of_pos _ h⟩

/-- What is divided at one place. -/
def R1 (a b : List Int) (i : Nat) : Int := a.getD i 0 + LB * (valL (a.drop (i + 1)) % valL b)

theorem r1_facts {a b : List Int} {i : Nat} (ha : Lim a) (hb : 0 < valL b) : 0 ≤ R1 a b i ∧ R1 a b i < LB * valL b ∧ R1 a b i % valL b = valL (a.drop i) % valL b ∧ valL (a.drop i) / valL b = LB * (valL (a.drop (i + 1)) / valL b) + R1 a b i / valL b := by
  have hx := ha.getD i
  have hm := mod_bounds (x := valL (a.drop (i + 1))) hb
  have e := hB
  have e1 : LB * (valL (a.drop (i + 1)) % valL b) ≤ LB * (valL b - 1) := Int.mul_le_mul_of_nonneg_left (by omega) (by decide)
  have e0 : 0 ≤ LB * (valL (a.drop (i + 1)) % valL b) := Int.mul_nonneg (by decide) hm.1
  rw [Int.mul_sub, Int.mul_one] at e1
  have hd := Int.emod_add_mul_ediv (valL (a.drop (i + 1))) (valL b)
  have hv : valL (a.drop i) = R1 a b i + valL b * (LB * (valL (a.drop (i + 1)) / valL b)) := by
    rw [drop_val', R1]
    have : LB * valL (a.drop (i + 1)) = LB * (valL (a.drop (i + 1)) % valL b) + LB * (valL b * (valL (a.drop (i + 1)) / valL b)) := by rw [← Int.mul_add, hd]
    rw [this, Int.mul_left_comm (valL b) LB]; omega
  refine ⟨by unfold R1; omega, by unfold R1; omega, ?_, ?_⟩
  · rw [hv, Int.add_mul_emod_self_left]
  · rw [hv, Int.add_mul_ediv_left _ _ (by omega)]; omega

theorem cons_limbs {a b rest : List Int} {i : Nat} (ha : Lim a) (hb : 0 < valL b) (hr : rest = limbs (valL (a.drop (i + 1)) % valL b).toNat) : Lim (a.getD i 0 :: rest) ∧ valL (a.getD i 0 :: rest) = R1 a b i := by
  have hm := mod_bounds (x := valL (a.drop (i + 1))) hb
  have hc := limbs_can (valL (a.drop (i + 1)) % valL b).toNat
  refine ⟨fun x hx => ?_, ?_⟩
  · rcases List.mem_cons.1 hx with rfl | hx
    · exact ha.getD i
    · rw [hr] at hx; exact hc.1 x hx
  · rw [hr]
    simp only [valL, limbs_val, R1]
    rw [Int.toNat_of_nonneg hm.1]

/-- The first digits. -/
theorem top_bounds {l : List Int} (h : Lim l) (m : Nat) : LB ^ m * valL (l.drop m) ≤ valL l ∧ valL l < LB ^ m * (valL (l.drop m) + 1) := by
  have e1 : valL l = valL (l.take m) + LB ^ m * valL (l.drop m) := by
    by_cases hm : m ≤ l.length
    · conv => lhs; rw [← List.take_append_drop m l]
      rw [valL_append, List.length_take, Nat.min_eq_left hm]
    · rw [List.take_of_length_le (by omega), List.drop_of_length_le (by omega)]; simp [valL]
  have h1 : Lim (l.take m) := fun x hx => h x (List.mem_of_mem_take hx)
  have h2 := valL_nonneg h1
  have h3 := valL_lt h1
  have h4 := pow_mono (show (l.take m).length ≤ m by rw [List.length_take]; omega)
  rw [Int.mul_add, Int.mul_one]
  omega

theorem first_lt {l : List Int} (h : Lim l) {m d : Nat} (hd : l.length ≤ m + d) : 0 ≤ valL (l.drop m) ∧ valL (l.drop m) < LB ^ d := by
  have h1 := drop_lim h m
  have h2 := valL_lt h1
  have h3 := pow_mono (show (l.drop m).length ≤ d by rw [List.length_drop]; omega)
  exact ⟨valL_nonneg h1, by omega⟩

theorem r1_len {a b : List Int} {n i : Nat} (ha : Lim a) (hb : Cano b) (hne : b ≠ []) (hn : b.length = n + 1) : (limbs (R1 a b i).toNat).length ≤ n + 2 := by
  have hp := (valL_pos hb).2 hne
  obtain ⟨f1, f2, -, -⟩ := r1_facts (i := i) ha hp
  have h1 := valL_lt hb.1
  refine limbs_len ?_
  rw [Int.toNat_of_nonneg f1, Int.pow_succ]
  rw [hn] at h1
  have : LB * valL b ≤ LB * LB ^ (n + 1) := Int.mul_le_mul_of_nonneg_left (by omega) (by decide)
  rw [Int.mul_comm (LB ^ (n + 1)) LB]
  omega

structure TopPhi (r b : List Int) (n j : Nat) (top first : Int) : Prop where
  hj : max 0 (n - 1) ≤ j ∧ j ≤ n + 2
  ht : top = valL (b.drop j)
  hf : first = valL (r.drop j)

theorem top_start {r b : List Int} {n : Nat} (hr : r.length ≤ n + 2) (hb : b.length = n + 1) : TopPhi r b n (n + 2) 0 0 :=
  ⟨by omega, by rw [List.drop_of_length_le (by omega)]; rfl, by rw [List.drop_of_length_le (by omega)]; rfl⟩

theorem top_vals {r b : List Int} {n j : Nat} {top first : Int} (hr : Lim r) (hrl : r.length ≤ n + 2) (hb : Lim b) (hbl : b.length = n + 1) (h : TopPhi r b n (j + 1) top first) (hj : n - 1 ≤ j) :
    IntKind.i64.wrap (first * 10000) = first * 10000 ∧ IntKind.i64.wrap (first * 10000 + r.getD j 0) = first * 10000 + r.getD j 0 ∧ IntKind.i64.wrap (top * 10000) = top * 10000 ∧ IntKind.i64.wrap (top * 10000 + b.getD j 0) = top * 10000 + b.getD j 0 ∧
      first * 10000 + r.getD j 0 = valL (r.drop j) ∧ (j ≤ n → top * 10000 + b.getD j 0 = valL (b.drop j)) ∧ (¬ j ≤ n → top = valL (b.drop j)) := by
  obtain ⟨h1, h2, h3⟩ := h
  have f1 := first_lt hr (m := j + 1) (d := 2) (by omega)
  have f2 := first_lt hb (m := j + 1) (d := 2) (by omega)
  have g1 := hr.getD j
  have g2 := hb.getD j
  have e := hB
  have e2 : LB ^ 2 = 100000000 := rfl
  rw [← h3] at f1
  rw [← h2] at f2
  refine ⟨wi (by omega) (by omega), wi (by omega) (by omega), wi (by omega) (by omega), wi (by omega) (by omega), ?_, fun _ => ?_, fun hjn => ?_⟩
  · rw [drop_val' j, ← h3, e]; omega
  · rw [drop_val' j, ← h2, e]; omega
  · rw [h2, List.drop_of_length_le (by omega), List.drop_of_length_le (by omega)]

/-- What the search knows. -/
structure HalfPhi (q low high : Int) : Prop where
  h0 : 0 ≤ low
  h1 : low ≤ q
  h2 : q ≤ high
  h3 : high ≤ LB

theorem half_start {a b : List Int} {n i : Nat} {top first : Int} (ha : Lim a) (hb : Cano b) (hne : b ≠ []) (hn : b.length = n + 1)
    (ht : top = valL (b.drop (n - 1))) (hf : first = valL ((limbs (R1 a b i).toNat).drop (n - 1))) :
    0 < top ∧ top < LB * LB ∧ 0 ≤ first ∧ first < LB * LB * LB ∧ HalfPhi (R1 a b i / valL b) (first / (top + 1)) (first / top) := by
  have hp := (valL_pos hb).2 hne
  obtain ⟨f1, f2, -, -⟩ := r1_facts (i := i) ha hp
  have hrc := limbs_can (R1 a b i).toNat
  have hrv : valL (limbs (R1 a b i).toNat) = R1 a b i := by rw [limbs_val]; omega
  have hrl := r1_len (i := i) ha hb hne hn
  have t1 := top_bounds hb.1 (n - 1)
  have t2 := top_bounds hrc.1 (n - 1)
  rw [← ht] at t1
  rw [← hf, hrv] at t2
  have b1 := first_lt hb.1 (m := n - 1) (d := 2) (by omega)
  have b2 := first_lt hrc.1 (m := n - 1) (d := 3) (by omega)
  rw [← ht] at b1
  rw [← hf] at b2
  have e2 : LB ^ 2 = LB * LB := by decide
  have e3 : LB ^ 3 = LB * LB * LB := by decide
  rw [e2] at b1
  rw [e3] at b2
  have hP : 0 < LB ^ (n - 1) := lbpos _
  have hbc := drop_can hb (n - 1)
  have hdne : b.drop (n - 1) ≠ [] := by
    intro e
    have := congrArg List.length e
    rw [List.length_drop] at this; simp at this; omega
  have htop : 0 < top := by rw [ht]; exact (valL_pos hbc).2 hdne
  -- the quotient
  have hq0 : 0 ≤ R1 a b i / valL b := Int.ediv_nonneg f1 (by omega)
  refine ⟨htop, b1.2, b2.1, b2.2, ⟨Int.ediv_nonneg b2.1 (by omega), ?_, ?_, ?_⟩⟩
  · -- first / (top + 1) ≤ q
    rw [Int.le_ediv_iff_mul_le hp]
    have c1 : first / (top + 1) * (top + 1) ≤ first := Int.ediv_mul_le _ (by omega)
    have c0 : 0 ≤ first / (top + 1) := Int.ediv_nonneg b2.1 (by omega)
    have c2 : first / (top + 1) * valL b ≤ first / (top + 1) * (LB ^ (n - 1) * (top + 1)) := Int.mul_le_mul_of_nonneg_left (by omega) c0
    have c3 : first / (top + 1) * (LB ^ (n - 1) * (top + 1)) = LB ^ (n - 1) * (first / (top + 1) * (top + 1)) := by
      rw [Int.mul_left_comm]
    have c4 : LB ^ (n - 1) * (first / (top + 1) * (top + 1)) ≤ LB ^ (n - 1) * first := Int.mul_le_mul_of_nonneg_left c1 (by omega)
    omega
  · -- q ≤ first / top
    rw [Int.le_ediv_iff_mul_le htop]
    have c1 : R1 a b i / valL b * valL b ≤ R1 a b i := Int.ediv_mul_le _ (by omega)
    have c2 : R1 a b i / valL b * (LB ^ (n - 1) * top) ≤ R1 a b i / valL b * valL b := Int.mul_le_mul_of_nonneg_left t1.1 hq0
    have c3 : R1 a b i / valL b * (LB ^ (n - 1) * top) = LB ^ (n - 1) * (R1 a b i / valL b * top) := by rw [Int.mul_left_comm]
    have c4 : LB ^ (n - 1) * (R1 a b i / valL b * top) < LB ^ (n - 1) * (first + 1) := by omega
    have := Int.lt_of_mul_lt_mul_left c4 (by omega)
    omega
  · -- first / top ≤ LB
    by_cases hn0 : n = 0
    · subst hn0
      simp only [Nat.zero_sub, Int.pow_zero, Int.one_mul] at t1 t2
      have hbt : valL b = top := by omega
      have hrf : R1 a b i = first := by omega
      have : first < LB * top := by rw [← hbt, ← hrf]; exact f2
      exact Int.le_of_lt (Int.ediv_lt_of_lt_mul htop this)
    · have hge : LB ≤ top := by
        have := valL_ge hbc hdne
        rw [← ht, List.length_drop] at this
        have e5 : b.length - (n - 1) - 1 = 1 := by omega
        rw [e5, Int.pow_succ, Int.pow_zero, Int.one_mul] at this
        exact this
      have c1 : LB ^ (n - 1) * first < LB ^ (n - 1) * (LB * (top + 1)) := by
        have c2 : LB * valL b ≤ LB * (LB ^ (n - 1) * (top + 1)) := Int.mul_le_mul_of_nonneg_left (by omega) (by decide)
        rw [Int.mul_left_comm (LB ^ (n - 1)) LB]
        omega
      have c3 := Int.lt_of_mul_lt_mul_left c1 (by omega)
      have c4 : first / top < LB + 1 := by
        refine Int.ediv_lt_of_lt_mul htop ?_
        rw [Int.mul_add, Int.mul_one] at c3
        rw [Int.add_mul, Int.one_mul]
        omega
      omega

theorem half_mid {q low high : Int} (h : HalfPhi q low high) (hlt : low < high) :
    IntKind.i64.wrap ((IntKind.i64.wrap (IntKind.i64.wrap (low + high) + 1)).tdiv 2) = (low + high + 1) / 2 ∧ low < (low + high + 1) / 2 ∧ (low + high + 1) / 2 ≤ high ∧ IntKind.i64.wrap ((low + high + 1) / 2 - 1) = (low + high + 1) / 2 - 1 := by
  obtain ⟨h0, h1, h2, h3⟩ := h
  have e := hB
  rw [wi (x := low + high) (by omega) (by omega), wi (x := low + high + 1) (by omega) (by omega), Int.tdiv_eq_ediv_of_nonneg (by omega)]
  exact ⟨wi (by omega) (by omega), by omega, by omega, wi (by omega) (by omega)⟩

theorem half_up {q low high mid : Int} (h : HalfPhi q low high) (hm : low < mid ∧ mid ≤ high) (hq : mid ≤ q) : HalfPhi q mid high ∧ (high - mid).toNat < (high - low).toNat := by
  obtain ⟨h0, h1, h2, h3⟩ := h
  exact ⟨⟨by omega, hq, h2, h3⟩, by omega⟩
theorem half_down {q low high mid : Int} (h : HalfPhi q low high) (hm : low < mid ∧ mid ≤ high) (hq : ¬ mid ≤ q) : HalfPhi q low (mid - 1) ∧ (mid - 1 - low).toNat < (high - low).toNat := by
  obtain ⟨h0, h1, h2, h3⟩ := h
  exact ⟨⟨h0, h1, by omega, by omega⟩, by omega⟩

theorem cmp_le {x y : Int} : cmpI x y ≤ 0 ↔ x ≤ y := by
  unfold cmpI
  by_cases h1 : x < y
  · rw [if_pos h1]; omega
  · rw [if_neg h1]
    by_cases h2 : y < x
    · rw [if_pos h2]; omega
    · rw [if_neg h2]; omega

/-- The test of the search. -/
theorem half_test {v mid : Int} {b : List Int} (hb : Lim b) (hp : 0 < valL b) (hv : 0 ≤ v) (hm : 0 ≤ mid) : cmpI (valL (limbs (valL b * valL [mid]).toNat)) (valL (limbs v.toNat)) ≤ 0 ↔ mid ≤ v / valL b := by
  have h0 : 0 ≤ valL b * mid := Int.mul_nonneg (by omega) hm
  rw [cmp_le, limbs_val, limbs_val, valL_one, Int.toNat_of_nonneg h0, Int.toNat_of_nonneg hv, Int.le_ediv_iff_mul_le hp, Int.mul_comm]

/-- The next digit. -/
theorem div_next {a b q rest : List Int} {i : Nat} {d : Int} (ha : Lim a) (hb : Cano b) (hne : b ≠ []) (h : DivPhi a b (i + 1) q rest) (hd : d = R1 a b i / valL b) :
    0 ≤ d ∧ d < LB ∧ DivPhi a b i (q.set i d) (limbs (R1 a b i % valL b).toNat) := by
  have hp := (valL_pos hb).2 hne
  obtain ⟨f1, f2, f3, f4⟩ := r1_facts (i := i) ha hp
  obtain ⟨g1, g2, g3, g4, g5⟩ := h
  have d0 : 0 ≤ d := by rw [hd]; exact Int.ediv_nonneg f1 (by omega)
  have d1 : d < LB := by rw [hd]; exact Int.ediv_lt_of_lt_mul hp f2
  refine ⟨d0, d1, by simp; omega, by simpa using g2, set_lim g3 d0 d1, by rw [f3], ?_⟩
  have e1 : (q.set i d).drop i = d :: q.drop (i + 1) := by
    rw [List.drop_eq_getElem_cons (by simp; omega)]
    simp [List.drop_set]
  rw [e1, f4]
  simp only [valL]
  rw [g5, hd]; omega

theorem rest_minus {a b : List Int} {i : Nat} (ha : Lim a) (hb : Cano b) (hne : b ≠ []) :
    valL (limbs (valL b * valL [R1 a b i / valL b]).toNat) ≤ valL (limbs (R1 a b i).toNat) ∧
      (valL (limbs (R1 a b i).toNat) - valL (limbs (valL b * valL [R1 a b i / valL b]).toNat)) = R1 a b i % valL b := by
  have hp := (valL_pos hb).2 hne
  obtain ⟨f1, f2, f3, f4⟩ := r1_facts (i := i) ha hp
  have h0 : 0 ≤ valL b * (R1 a b i / valL b) := Int.mul_nonneg (by omega) (Int.ediv_nonneg f1 (by omega))
  have hm := mod_bounds (x := R1 a b i) hp
  have hd := Int.emod_add_mul_ediv (R1 a b i) (valL b)
  rw [limbs_val, limbs_val, valL_one, Int.toNat_of_nonneg h0, Int.toNat_of_nonneg f1]
  omega

theorem rest_zero {a b : List Int} {i : Nat} (ha : Lim a) (hb : Cano b) (hne : b ≠ []) (h : ¬ 0 < R1 a b i / valL b) : R1 a b i = R1 a b i % valL b := by
  have hp := (valL_pos hb).2 hne
  obtain ⟨f1, f2, f3, f4⟩ := r1_facts (i := i) ha hp
  have hq : R1 a b i / valL b = 0 := by have := Int.ediv_nonneg f1 (Int.le_of_lt hp); omega
  have hd := Int.emod_add_mul_ediv (R1 a b i) (valL b)
  rw [hq, Int.mul_zero] at hd
  omega

theorem div_small {a b : List Int} {n : Nat} (ha : Cano a) (hb : Cano b) (hne : b ≠ []) (hn : b.length = n + 1) (h : a.length ≤ n) : [] = limbs (valL a / valL b).toNat ∧ a = limbs (valL a % valL b).toNat := by
  have h1 := cmp_len ha hb (by omega)
  have h0 := valL_nonneg ha.1
  rw [Int.ediv_eq_zero_of_lt h0 h1, Int.emod_eq_of_lt h0 h1]
  exact ⟨(limbs_nil.2 rfl).symm, ha.limbs (by omega)⟩

theorem div_end {a b q rest : List Int} (h : DivPhi a b 0 q rest) : limbs (valL q).toNat = limbs (valL a / valL b).toNat ∧ rest = limbs (valL a % valL b).toNat := by
  have h1 := h.hv
  have h2 := h.hr
  rw [List.drop_zero, List.drop_zero] at h1
  rw [List.drop_zero] at h2
  exact ⟨by rw [h1], h2⟩

theorem len_pred {a b : List Int} (h : b ≠ []) (hl : a.length + b.length + 2 < CAP) : ∃ z : Nat, IntKind.i64.wrap ((b.length : Int) - 1) = (z : Int) ∧ b.length = z + 1 := by
  have h1 := List.length_pos_iff.2 h
  have hl : a.length + b.length + 2 < 1000000000000 := hl
  exact ⟨b.length - 1, by rw [wi (by omega) (by omega)]; omega, by omega⟩

theorem rest_len {a b rest : List Int} {k : Nat} (hb : Cano b) (hne : b ≠ []) (hr : rest = limbs (valL (a.drop k) % valL b).toNat) : rest.length ≤ b.length := by
  have hp := (valL_pos hb).2 hne
  have hm := mod_bounds (x := valL (a.drop k)) hp
  have h1 := valL_lt hb.1
  rw [hr]
  refine limbs_len ?_
  rw [Int.toNat_of_nonneg hm.1]
  omega

theorem quo_facts {top first : Int} (h1 : 0 < top) (h2 : top < LB * LB) (h3 : 0 ≤ first) (h4 : first < LB * LB * LB) :
    IntKind.i64.wrap (top + 1) = top + 1 ∧ top + 1 ≠ 0 ∧ top ≠ 0 ∧ IntKind.i64.wrap (first.tdiv (top + 1)) = first / (top + 1) ∧ IntKind.i64.wrap (first.tdiv top) = first / top := by
  have e2 : LB * LB = 100000000 := rfl
  have e3 : LB * LB * LB = 1000000000000 := rfl
  have d1 : first / (top + 1) ≤ first := Int.ediv_le_self _ h3
  have d2 : first / top ≤ first := Int.ediv_le_self _ h3
  have d3 : 0 ≤ first / (top + 1) := Int.ediv_nonneg h3 (by omega)
  have d4 : 0 ≤ first / top := Int.ediv_nonneg h3 (by omega)
  rw [Int.tdiv_eq_ediv_of_nonneg h3, Int.tdiv_eq_ediv_of_nonneg h3]
  exact ⟨wi (by omega) (by omega), by omega, by omega, wi (by omega) (by omega), wi (by omega) (by omega)⟩

theorem one_len {b : List Int} {d : Int} (hb : Lim b) (h0 : 0 ≤ d) (h1 : d ≤ LB) : (limbs (valL b * valL [d]).toNat).length ≤ b.length + 1 := by
  have g0 := valL_nonneg hb
  have g1 := valL_lt hb
  refine limbs_len ?_
  rw [valL_one, Int.toNat_of_nonneg (Int.mul_nonneg g0 h0), Int.pow_succ]
  have : valL b * d ≤ valL b * LB := Int.mul_le_mul_of_nonneg_left h1 g0
  have h2 : valL b * LB < LB ^ b.length * LB := Int.mul_lt_mul_of_pos_right g1 (by decide)
  omega

theorem half_end {q low high : Int} (h : HalfPhi q low high) (hlt : ¬ low < high) : low = q := by
  have := h.h1; have := h.h2; omega

end Go.Cm.D
end

section
/- The reference's sums, products, quotients and divisors of texts. No program is in sight here. -/
namespace Go.Cm
open Go.Proofs

/-- Right in its form, and not long. -/
def RS (n : Nat) (s : List UInt8) : Prop := RF s ∧ s.length ≤ n
theorem RS.up {n m : Nat} {s : List UInt8} (h : RS n s) (hn : n ≤ m) : RS m s := ⟨h.1, Nat.le_trans h.2 hn⟩
theorem RS.cap {n : Nat} {s : List UInt8} (h : RS n s) (hn : n < 1000000000000) : RF s ∧ s.length < CAP := ⟨h.1, Nat.lt_of_le_of_lt h.2 hn⟩

theorem rs_num {s : List UInt8} (h : RF s) : (numI s).natAbs < 10 ^ s.length := by
  have h1 := numOf_lt (form_ok h).1
  rw [← numI_trim] at h1
  exact Nat.lt_of_lt_of_le h1 (Nat.pow_le_pow_right (by omega) (trim_len s [45]))
theorem rs_num' {n : Nat} {s : List UInt8} (h : RS n s) : (numI s).natAbs < 10 ^ n :=
  Nat.lt_of_lt_of_le (rs_num h.1) (Nat.pow_le_pow_right (by omega) h.2)

theorem dec_len {a k : Nat} (h : a < 10 ^ k) : (Lib.decDigits a).length ≤ k + 1 := by
  by_cases h0 : a = 0
  · subst h0
    rw [Lib.decDigits]
    simp
  · have h1 := D.dd_lt h
    unfold D.dd at h1
    rw [if_neg h0] at h1
    omega
theorem itoa_len {v : Int} {k : Nat} (h : v.natAbs < 10 ^ k) : (Lib.itoa v).length ≤ k + 2 := by
  have h1 := dec_len h
  unfold Lib.itoa
  by_cases hv : v < 0
  · rw [if_pos hv]
    simp only [List.length_cons]
    omega
  · rw [if_neg hv, show v.toNat = v.natAbs by omega]
    omega
theorem rs_itoa {v : Int} {k n : Nat} (h : v.natAbs < 10 ^ k) (hk : k + 2 ≤ n) : RS n (Lib.itoa v) ∧ numI (Lib.itoa v) = v :=
  ⟨⟨(form_itoa v).1, Nat.le_trans (itoa_len h) hk⟩, (form_itoa v).2⟩
theorem rs_one : RS 2 [49] ∧ numI [49] = 1 := ⟨⟨by unfold RF; decide, by decide⟩, by decide⟩

namespace D
theorem lim_len {k : Nat} {v : Int} (h0 : 0 ≤ v) (h : v < LB ^ k) : (limbs v.toNat).length ≤ k := limbs_len (by rw [Int.toNat_of_nonneg h0]; exact h)
theorem plus_ln {d e : List Int} (hd : Lim d) (he : Lim e) : (limbs (valL d + valL e).toNat).length ≤ d.length + e.length + 1 := by
  have h1 := valL_lt hd
  have h2 := valL_lt he
  have h3 := valL_nonneg hd
  have h4 := valL_nonneg he
  have h5 : LB ^ d.length ≤ LB ^ (d.length + e.length) := pow_mono (by omega)
  have h6 : LB ^ e.length ≤ LB ^ (d.length + e.length) := pow_mono (by omega)
  have h7 := lbpos (d.length + e.length)
  refine lim_len (by omega) ?_
  rw [Int.pow_succ, hB] at *
  omega
theorem minus_ln {d e : List Int} (hd : Lim d) (he : Lim e) : (limbs (valL d - valL e).toNat).length ≤ d.length := by
  have h1 := valL_lt hd
  have h4 := valL_nonneg he
  have h7 := lbpos d.length
  exact limbs_len (by omega)
theorem times_ln {d e : List Int} (hd : Lim d) (he : Lim e) : (limbs (valL d * valL e).toNat).length ≤ d.length + e.length := by
  have h1 := valL_lt hd
  have h2 := valL_lt he
  have h3 := valL_nonneg hd
  have h4 := valL_nonneg he
  refine lim_len (Int.mul_nonneg h3 h4) ?_
  rw [Int.pow_add]
  exact Int.mul_lt_mul' (Int.le_of_lt h1) h2 h4 (lbpos _)
theorem ne_limbs {v : Int} (h : v ≠ 0) : limbs v.natAbs ≠ [] := by
  intro e
  have := limbs_val v.natAbs
  rw [e] at this
  simp [valL] at this
  omega
end D

/-- The digits of a text. -/
def lm (s : List UInt8) : List Int := D.limbs (numI s).natAbs
theorem lm_facts {n : Nat} {s : List UInt8} (h : RS n s) : D.Cano (D.limbs (numI s).natAbs) ∧ (D.limbs (numI s).natAbs).length ≤ n :=
  ⟨D.limbs_can _, Nat.le_trans (rf_limbs h.1) h.2⟩

theorem rs_lens {a b : List UInt8} (ha : RS 20000000000 a) (hb : RS 20000000000 b) :
    4 * (D.limbs (D.valL (D.limbs (numI a).natAbs) + D.valL (D.limbs (numI b).natAbs)).toNat).length < 1000000000000 ∧
    4 * (D.limbs (D.valL (D.limbs (numI a).natAbs) - D.valL (D.limbs (numI b).natAbs)).toNat).length < 1000000000000 ∧
    4 * (D.limbs (D.valL (D.limbs (numI b).natAbs) - D.valL (D.limbs (numI a).natAbs)).toNat).length < 1000000000000 ∧
    4 * (D.limbs (D.valL (D.limbs (numI a).natAbs) * D.valL (D.limbs (numI b).natAbs)).toNat).length < 1000000000000 := by
  obtain ⟨a1, a2⟩ := lm_facts ha
  obtain ⟨b1, b2⟩ := lm_facts hb
  have h1 := D.plus_ln a1.1 b1.1
  have h2 := D.minus_ln a1.1 b1.1
  have h3 := D.minus_ln b1.1 a1.1
  have h4 := D.times_ln a1.1 b1.1
  exact ⟨by omega, by omega, by omega, by omega⟩

theorem radd_small {a b : List UInt8} (ha : RF a) (hb : RF b) (h : a.length ≤ 9 ∧ b.length ≤ 9) : IntKind.i64.wrap (numI a + numI b) = numI a + numI b ∧ I64 (numI a + numI b) ∧ IntKind.i64.wrap (numI a * numI b) = numI a * numI b ∧ I64 (numI a * numI b) := by
  have h1 := small_i64 ha h.1
  have h2 := small_i64 hb h.2
  have h3 : (numI a * numI b).natAbs ≤ 1000000000 * 1000000000 := by rw [Int.natAbs_mul]; exact Nat.mul_le_mul (by omega) (by omega)
  refine ⟨wi (by omega) (by omega), by unfold I64; omega, wi (by omega) (by omega), by unfold I64; omega⟩

theorem radd_same {x y : Int} (h : decide (x < 0) = decide (y < 0)) : Lib.itoa (if decide (x < 0) = true then - D.valL (D.limbs (D.valL (D.limbs x.natAbs) + D.valL (D.limbs y.natAbs)).toNat) else D.valL (D.limbs (D.valL (D.limbs x.natAbs) + D.valL (D.limbs y.natAbs)).toNat)) = Lib.itoa (x + y) := by
  rw [decide_eq_decide] at h
  congr 1
  simp only [D.limbs_val, decide_eq_true_eq]
  split <;> omega
theorem radd_ge {x y : Int} (h : ¬ decide (x < 0) = decide (y < 0)) (hc : 0 ≤ cmpI (D.valL (D.limbs x.natAbs)) (D.valL (D.limbs y.natAbs))) : D.valL (D.limbs y.natAbs) ≤ D.valL (D.limbs x.natAbs) ∧ Lib.itoa (if decide (x < 0) = true then - D.valL (D.limbs (D.valL (D.limbs x.natAbs) - D.valL (D.limbs y.natAbs)).toNat) else D.valL (D.limbs (D.valL (D.limbs x.natAbs) - D.valL (D.limbs y.natAbs)).toNat)) = Lib.itoa (x + y) := by
  rw [decide_eq_decide] at h
  simp only [D.limbs_val] at hc ⊢
  have h2 : ¬ ((x.natAbs : Nat) : Int) < ((y.natAbs : Nat) : Int) := by
    intro h3; rw [cmp_lt h3] at hc; exact absurd hc (by decide)
  refine ⟨by omega, ?_⟩
  congr 1
  simp only [decide_eq_true_eq]
  split <;> omega
theorem radd_lt {x y : Int} (h : ¬ decide (x < 0) = decide (y < 0)) (hc : ¬ 0 ≤ cmpI (D.valL (D.limbs x.natAbs)) (D.valL (D.limbs y.natAbs))) : D.valL (D.limbs x.natAbs) ≤ D.valL (D.limbs y.natAbs) ∧ Lib.itoa (if decide (y < 0) = true then - D.valL (D.limbs (D.valL (D.limbs y.natAbs) - D.valL (D.limbs x.natAbs)).toNat) else D.valL (D.limbs (D.valL (D.limbs y.natAbs) - D.valL (D.limbs x.natAbs)).toNat)) = Lib.itoa (x + y) := by
  rw [decide_eq_decide] at h
  simp only [D.limbs_val] at hc ⊢
  have h2 : ((x.natAbs : Nat) : Int) < ((y.natAbs : Nat) : Int) := by
    refine Decidable.byContradiction fun h3 => hc ?_
    unfold cmpI
    rw [if_neg h3]; split <;> decide
  refine ⟨by omega, ?_⟩
  congr 1
  simp only [decide_eq_true_eq]
  split <;> omega
theorem neg_rs {s : List UInt8} {n : Nat} (h : RS n s) : RS (n + 2) (Lib.itoa (- numI s)) ∧ numI (Lib.itoa (- numI s)) = - numI s :=
  rs_itoa (k := n) (by rw [Int.natAbs_neg]; exact rs_num' h) (Nat.le_refl _)
theorem sub_val {a b : List UInt8} : Lib.itoa (numI a + numI (Lib.itoa (- numI b))) = Lib.itoa (numI a - numI b) := by rw [(form_itoa _).2]; congr 1
theorem mul_val {x y : Int} : Lib.itoa (if (decide (x < 0) != decide (y < 0)) = true then - D.valL (D.limbs (D.valL (D.limbs x.natAbs) * D.valL (D.limbs y.natAbs)).toNat) else D.valL (D.limbs (D.valL (D.limbs x.natAbs) * D.valL (D.limbs y.natAbs)).toNat)) = Lib.itoa (x * y) := by
  congr 1
  simp only [D.limbs_val]
  rw [← Int.natCast_mul, Int.toNat_natCast, ← Int.natAbs_mul]
  have hm : x * y < 0 ∨ 0 ≤ x * y := by omega
  by_cases hx : x < 0 <;> by_cases hy : y < 0 <;> simp only [hx, hy, decide_true, decide_false, bne_self_eq_false, Bool.false_eq_true, if_false, Bool.true_bne, Bool.false_bne, Bool.not_false, if_true]
  · have := Int.mul_pos_of_neg_of_neg hx hy; omega
  · have : x * y ≤ 0 := Int.mul_nonpos_of_nonpos_of_nonneg (by omega) (by omega)
    omega
  · have : x * y ≤ 0 := Int.mul_nonpos_of_nonneg_of_nonpos (by omega) (by omega)
    omega
  · have := Int.mul_nonneg (show 0 ≤ x by omega) (show 0 ≤ y by omega); omega

end Go.Cm
end

section
/- The reference's floor and rest. No program is in sight here. -/
namespace Go.Cm
open Go.Proofs

theorem floorQ_uniq {x y q : Int} (h1 : 0 < y → 0 ≤ x - y * q ∧ x - y * q < y) (h2 : y < 0 → y < x - y * q ∧ x - y * q ≤ 0) (h0 : y ≠ 0) : q = floorQ x y := by
  unfold floorQ
  by_cases hy : 0 < y
  · rw [if_pos hy]
    obtain ⟨g1, g2⟩ := h1 hy
    exact (Int.ediv_emod_unique hy).2 ⟨show x - y * q + y * q = x by omega, g1, g2⟩ |>.1.symm
  · rw [if_neg hy]
    obtain ⟨g1, g2⟩ := h2 (by omega)
    refine ((Int.ediv_emod_unique (r := -(x - y * q)) (show 0 < -y by omega)).2 ⟨?_, by omega, by omega⟩).1.symm
    rw [Int.neg_mul]; omega

theorem floor_big {x y : Int} (h0 : y ≠ 0) : (floorQ x y).natAbs ≤ x.natAbs ∧ (y * floorQ x y).natAbs ≤ x.natAbs + y.natAbs := by
  have key : ∀ u v : Int, 0 < v → (u / v).natAbs ≤ u.natAbs ∧ 0 ≤ u - v * (u / v) ∧ u - v * (u / v) < v := by
    intro u v hv
    have e := Int.emod_add_mul_ediv u v
    have m0 := Int.emod_nonneg u (show v ≠ 0 by omega)
    have m1 := Int.emod_lt_of_pos u hv
    refine ⟨?_, by omega, by omega⟩
    by_cases hu : 0 ≤ u
    · have d0 := Int.ediv_nonneg hu (Int.le_of_lt hv)
      have d1 := Int.ediv_le_self v hu
      omega
    · have d0 : u / v < 0 := Int.ediv_neg_of_neg_of_pos (by omega) hv
      have d1 : u ≤ u / v := by
        have : u / v * v ≤ u / v * 1 := by
          refine Int.mul_le_mul_of_nonpos_left ?_ (by omega) 
          omega
        refine (Int.le_ediv_iff_mul_le hv).2 ?_
        have h3 : u * v ≤ u * 1 := Int.mul_le_mul_of_nonpos_left (by omega) (by omega)
        omega
      omega
  unfold floorQ
  by_cases hy : 0 < y
  · rw [if_pos hy]
    obtain ⟨k1, k2, k3⟩ := key x y hy
    exact ⟨k1, by omega⟩
  · rw [if_neg hy]
    obtain ⟨k1, k2, k3⟩ := key (-x) (-y) (by omega)
    rw [Int.neg_mul] at k2 k3
    exact ⟨by omega, by omega⟩

theorem rdiv_small {a b : List UInt8} (ha : RF a) (hb : RF b) (h : a.length ≤ 9 ∧ b.length ≤ 9) (h0 : numI b ≠ 0) :
    (((numI a).tmod (numI b) ≠ 0 ∧ decide (numI a < 0) ≠ decide (numI b < 0)) → IntKind.i64.wrap (IntKind.i64.wrap ((numI a).tdiv (numI b)) - 1) = floorQ (numI a) (numI b)) ∧
    ((((numI a).tmod (numI b) != 0) = true → decide (numI a < 0) = decide (numI b < 0)) → IntKind.i64.wrap ((numI a).tdiv (numI b)) = floorQ (numI a) (numI b)) ∧
    I64 (floorQ (numI a) (numI b)) ∧ IntKind.i64.wrap (numI a - IntKind.i64.wrap (numI b * floorQ (numI a) (numI b))) = floorR (numI a) (numI b) ∧ I64 (floorR (numI a) (numI b)) := by
  have h1 := small_i64 ha h.1
  have h2 := small_i64 hb h.2
  have hf := floor_big (x := numI a) h0
  unfold floorR
  generalize numI a = x at *
  generalize numI b = y at *
  have e := Int.mul_tdiv_add_tmod x y
  have hq : (x.tdiv y).natAbs ≤ x.natAbs := by rw [Int.natAbs_tdiv]; exact Nat.div_le_self _ _
  have hlt : (x.tmod y).natAbs < y.natAbs := by rw [Int.natAbs_tmod]; exact Nat.mod_lt _ (by omega)
  have hs1 : 0 ≤ x → 0 ≤ x.tmod y := fun hx => Int.tmod_nonneg y hx
  have hs2 : x < 0 → x.tmod y ≤ 0 := fun hx => by
    have := Int.tmod_nonneg (a := -x) y (by omega)
    rw [Int.neg_tmod] at this
    omega
  have hw : IntKind.i64.wrap (x.tdiv y) = x.tdiv y := wi (by omega) (by omega)
  rw [hw]
  refine ⟨fun hc => ?_, fun hc => ?_, by unfold I64; omega, ?_, by unfold I64; omega⟩
  · rw [wi (by omega) (by omega)]
    have hc2 : ¬ (x < 0 ↔ y < 0) := fun h => hc.2 (by rw [decide_eq_decide]; exact h)
    have hc1 := hc.1
    refine floorQ_uniq (fun hy => ?_) (fun hy => ?_) h0 <;> rw [Int.mul_sub, Int.mul_one] <;> omega
  · have hc2 : x.tmod y ≠ 0 → (x < 0 ↔ y < 0) := fun hm => by
      rw [← decide_eq_decide]; exact hc (by simpa using hm)
    refine floorQ_uniq (fun hy => ?_) (fun hy => ?_) h0
    · by_cases hm : x.tmod y = 0
      · omega
      · have := hc2 hm; omega
    · by_cases hm : x.tmod y = 0
      · omega
      · have := hc2 hm; omega
  · rw [wi (x := y * floorQ x y) (by omega) (by omega), wi (by omega) (by omega)]

/-- The quotient of the magnitudes, with its sign. -/
def rquo (x y : Int) : Int := if (decide (x < 0) != decide (y < 0)) = true then - D.valL (D.limbs (D.valL (D.limbs x.natAbs) / D.valL (D.limbs y.natAbs)).toNat) else D.valL (D.limbs (D.valL (D.limbs x.natAbs) / D.valL (D.limbs y.natAbs)).toNat)

theorem rquo_val {x y : Int} : rquo x y = if (x < 0 ↔ y < 0) then ((x.natAbs / y.natAbs : Nat) : Int) else -((x.natAbs / y.natAbs : Nat) : Int) := by
  unfold rquo
  simp only [D.limbs_val]
  rw [← Int.natCast_ediv, Int.toNat_natCast]
  by_cases hx : x < 0 <;> by_cases hy : y < 0 <;> simp [hx, hy]
theorem rrest_len {x y : Int} : (0 : Int) < ((D.limbs (D.valL (D.limbs x.natAbs) % D.valL (D.limbs y.natAbs)).toNat).length : Int) ↔ x.natAbs % y.natAbs ≠ 0 := by
  simp only [D.limbs_val]
  rw [← Int.natCast_emod, Int.toNat_natCast]
  have hc := D.limbs_can (x.natAbs % y.natAbs)
  have hp := D.valL_pos hc
  rw [D.limbs_val] at hp
  constructor
  · intro h
    have : D.limbs (x.natAbs % y.natAbs) ≠ [] := by
      intro e; rw [e] at h; simp at h
    have := hp.2 this
    omega
  · intro h
    have := hp.1 (by omega)
    have := List.length_pos_iff.2 this
    omega
theorem rquo_facts {x y : Int} (h0 : y ≠ 0) : (rquo x y).natAbs ≤ x.natAbs ∧ ((x.natAbs % y.natAbs ≠ 0 ∧ decide (x < 0) ≠ decide (y < 0)) → rquo x y - 1 = floorQ x y) ∧ ((x.natAbs % y.natAbs ≠ 0 → decide (x < 0) = decide (y < 0)) → rquo x y = floorQ x y) := by
  have e := Nat.mod_add_div x.natAbs y.natAbs
  have hlt := Nat.mod_lt x.natAbs (show y.natAbs > 0 by omega)
  have hle := Nat.div_le_self x.natAbs y.natAbs
  have e2 : ((x.natAbs % y.natAbs : Nat) : Int) + ((y.natAbs : Nat) : Int) * ((x.natAbs / y.natAbs : Nat) : Int) = ((x.natAbs : Nat) : Int) := by exact_mod_cast e
  rw [rquo_val]
  generalize hq : x.natAbs / y.natAbs = q at *
  generalize hr : x.natAbs % y.natAbs = r at *
  have hyq : ((y.natAbs : Nat) : Int) * (q : Int) = if y < 0 then -(y * q) else y * q := by
    split
    · rw [show ((y.natAbs : Nat) : Int) = -y by omega, Int.neg_mul]
    · rw [show ((y.natAbs : Nat) : Int) = y by omega]
  refine ⟨by split <;> omega, fun hc => ?_, fun hc => ?_⟩
  · have hc2 : ¬ (x < 0 ↔ y < 0) := fun h => hc.2 (by rw [decide_eq_decide]; exact h)
    rw [if_neg hc2]
    refine floorQ_uniq (fun hy => ?_) (fun hy => ?_) h0 <;> rw [Int.mul_sub, Int.mul_one, Int.mul_neg]
    · rw [if_neg (by omega)] at hyq; omega
    · rw [if_pos (by omega)] at hyq; omega
  · have hc2 : r ≠ 0 → (x < 0 ↔ y < 0) := fun hm => by rw [← decide_eq_decide]; exact hc hm
    refine floorQ_uniq (fun hy => ?_) (fun hy => ?_) h0
    · rw [if_neg (by omega)] at hyq
      by_cases hs : (x < 0 ↔ y < 0)
      · rw [if_pos hs]; omega
      · rw [if_neg hs, Int.mul_neg]
        have : r = 0 := Decidable.byContradiction fun h => hs (hc2 h)
        omega
    · rw [if_pos (by omega)] at hyq
      by_cases hs : (x < 0 ↔ y < 0)
      · rw [if_pos hs]; omega
      · rw [if_neg hs, Int.mul_neg]
        have : r = 0 := Decidable.byContradiction fun h => hs (hc2 h)
        omega

theorem rdiv_len (x y : Int) : (D.limbs (D.valL (D.limbs x.natAbs) / D.valL (D.limbs y.natAbs)).toNat).length ≤ (D.limbs x.natAbs).length := by
  have h1 := D.valL_lt (D.limbs_can x.natAbs).1
  have h2 := D.valL_nonneg (D.limbs_can x.natAbs).1
  have h3 := D.valL_nonneg (D.limbs_can y.natAbs).1
  have h4 := Int.ediv_le_self (D.valL (D.limbs y.natAbs)) h2
  have h5 := Int.ediv_nonneg h2 h3
  exact D.lim_len h5 (by omega)

theorem abs_up {v x : Int} {n : Nat} (h : v.natAbs ≤ x.natAbs) (hx : x.natAbs < 10 ^ n) : v.natAbs < 10 ^ n := Nat.lt_of_le_of_lt h hx
theorem pow_two {n : Nat} {u v : Nat} (hu : u < 10 ^ n) (hv : v < 10 ^ n) : u + v < 10 ^ (n + 1) := by rw [Nat.pow_succ]; omega

theorem rq_rs {a b : List UInt8} {n : Nat} (ha : RS n a) (h0 : numI b ≠ 0) : RS (n + 2) (Lib.itoa (rquo (numI a) (numI b))) ∧ RS (n + 2) (Lib.itoa (floorQ (numI a) (numI b))) :=
  ⟨(rs_itoa (abs_up (rquo_facts h0).1 (rs_num' ha)) (Nat.le_refl _)).1, (rs_itoa (abs_up (floor_big h0).1 (rs_num' ha)) (Nat.le_refl _)).1⟩
theorem rm_rs {a b : List UInt8} {n : Nat} (ha : RS n a) (hb : RS n b) (h0 : numI b ≠ 0) : RS (n + 3) (Lib.itoa (floorQ (numI a) (numI b) * numI b)) := by
  have h1 := (floor_big (x := numI a) h0).2
  rw [Int.mul_comm] at h1
  exact (rs_itoa (k := n + 1) (Nat.lt_of_le_of_lt h1 (pow_two (rs_num' ha) (rs_num' hb))) (by omega)).1

end Go.Cm
end

section
/- The reference's divisors. No program is in sight here. -/
namespace Go.Cm
open Go.Proofs

structure RGPhi (g x y : Int) : Prop where
  hg : gcdI x y = g
  hx : x.natAbs < 1000000000
  hy : y.natAbs < 1000000000
theorem rg_start {x y : Int} (ha : -1000000000 < x ∧ x < 1000000000) (hb : -1000000000 < y ∧ y < 1000000000) : RGPhi (gcdI x y) x y := ⟨rfl, by omega, by omega⟩
theorem gcd_step (x y : Nat) : Nat.gcd y (x % y) = Nat.gcd x y := by
  rw [Nat.gcd_comm, ← Nat.gcd_rec, Nat.gcd_comm]
theorem rg_next {g x y : Int} (h : RGPhi g x y) (hy : y ≠ 0) : RGPhi g y (x.tmod y) ∧ (x.tmod y).natAbs < y.natAbs := by
  have h1 : (x.tmod y).natAbs = x.natAbs % y.natAbs := Int.natAbs_tmod x y
  have h2 := Nat.mod_lt x.natAbs (show y.natAbs > 0 by omega)
  have h3 := h.hy
  refine ⟨⟨?_, h3, by omega⟩, by omega⟩
  rw [← h.hg]
  unfold gcdI
  rw [h1, gcd_step]
theorem rg_end {g x : Int} (h : RGPhi g x 0) : IntKind.i64.wrap (-x) = -x ∧ I64 g ∧ ((x.natAbs : Nat) : Int) = g := by
  have hx := h.hx
  have hg := h.hg
  unfold gcdI at hg
  simp at hg
  exact ⟨wi (by omega) (by omega), by unfold I64; omega, by omega⟩

structure RHPhi (g : Int) (x y : List Int) : Prop where
  hx : D.Cano x
  hy : D.Cano y
  hg : gcdI (D.valL x) (D.valL y) = g
  lx : x.length ≤ 1000000000
  ly : y.length ≤ 1000000000
theorem rh_start {a b : List UInt8} (ha : RS 1000000000 a) (hb : RS 1000000000 b) : RHPhi (gcdI (numI a) (numI b)) (D.limbs (numI a).natAbs) (D.limbs (numI b).natAbs) := by
  have la := lm_facts ha
  have lb := lm_facts hb
  refine ⟨la.1, lb.1, ?_, la.2, lb.2⟩
  unfold gcdI
  rw [D.limbs_val, D.limbs_val, Int.natAbs_natCast, Int.natAbs_natCast]
theorem rh_next {g : Int} {x y : List Int} (h : RHPhi g x y) (hy : (0 : Int) < (y.length : Int)) : RHPhi g y (D.limbs (D.valL x % D.valL y).toNat) ∧ (D.valL (D.limbs (D.valL x % D.valL y).toNat)).natAbs < (D.valL y).natAbs := by
  have hne : y ≠ [] := by rintro rfl; simp at hy
  have hp := (D.valL_pos h.hy).2 hne
  have hx0 := D.valL_nonneg h.hx.1
  have hm := D.mod_bounds (x := D.valL x) hp
  have hv : (D.valL (D.limbs (D.valL x % D.valL y).toNat)) = D.valL x % D.valL y := by rw [D.limbs_val]; omega
  have hl := D.valL_lt h.hy.1
  have hlen : (D.limbs (D.valL x % D.valL y).toNat).length ≤ y.length := D.lim_len hm.1 (by omega)
  have hly := h.ly
  refine ⟨⟨h.hy, D.limbs_can _, ?_, h.ly, by omega⟩, by rw [hv]; omega⟩
  rw [← h.hg]
  unfold gcdI
  rw [hv, Int.natAbs_emod_of_nonneg hx0, gcd_step]
theorem rh_end {g : Int} {x y : List Int} (h : RHPhi g x y) (hy : ¬ (0 : Int) < (y.length : Int)) : D.valL x = g := by
  have hne : y = [] := List.eq_nil_of_length_eq_zero (by omega)
  subst hne
  have hx0 := D.valL_nonneg h.hx.1
  have hg := h.hg
  unfold gcdI at hg
  simp [D.valL] at hg
  omega

theorem rint_at {s : List UInt8} {i : Nat} (h : RF s) (hi : i < s.length) : ((s.getD i 0).toNat = 45 → i = 0) ∧ ((s.getD i 0).toNat ≠ 45 → 48 ≤ (s.getD i 0).toNat ∧ (s.getD i 0).toNat ≤ 57) := by
  have hd := (form_ok h).1
  have hne := form_ne h
  by_cases hp : hasPre s [45] = true
  · have ht : trimPre s [45] = s.drop 1 := by unfold trimPre; rw [if_pos hp]; rfl
    rw [ht] at hd
    by_cases h0 : i = 0
    · subst h0
      have h1 := (first_minus hne).2 hp
      exact ⟨fun _ => rfl, fun h2 => absurd (show (s.getD 0 0).toNat = 45 by omega) h2⟩
    · have hm : s.getD i 0 ∈ s.drop 1 := by
        rw [List.getD_eq_getElem?_getD, List.getElem?_eq_getElem hi]
        have : (s.drop 1)[i - 1]'(by rw [List.length_drop]; omega) = s[i] := by
          rw [List.getElem_drop]; congr 1; omega
        rw [Option.getD_some, ← this]
        exact List.getElem_mem _
      have := hd _ hm
      exact ⟨fun h2 => by omega, fun _ => this⟩
  · have ht : trimPre s [45] = s := by unfold trimPre; rw [if_neg hp]
    rw [ht] at hd
    have hm : s.getD i 0 ∈ s := by
      rw [List.getD_eq_getElem?_getD, List.getElem?_eq_getElem hi]
      exact List.getElem_mem _
    have := hd _ hm
    exact ⟨fun h2 => by omega, fun _ => this⟩
theorem rint_num (s : List UInt8) : numOf s = (numI s).natAbs := by
  rw [numI_trim]
  unfold trimPre
  by_cases hp : hasPre s [45] = true
  · rw [if_pos hp]
    unfold hasPre at hp
    simp only [Bool.and_eq_true, decide_eq_true_eq, beq_iff_eq] at hp
    match s, hp.2 with
    | c :: l, e =>
      simp at e; subst e
      have := numOf_append [45] l
      rw [show numOf [45] = 0 from rfl, Nat.zero_mul, Nat.zero_add] at this
      exact this
    | [], e => simp at e
  · rw [if_neg hp]
theorem rint_next {s : List UInt8} {i : Nat} (hi : i < s.length) : numOf (s.take (i + 1)) = numOf (s.take i) * 10 + ((s.getD i 0).toNat - 48) := by
  rw [List.take_add_one, List.getElem?_eq_getElem hi, Option.toList_some, numOf_append, List.getD_eq_getElem?_getD, List.getElem?_eq_getElem hi, Option.getD_some]
  simp [numOf]
theorem rint_le (s : List UInt8) (i : Nat) : numOf (s.take i) ≤ (numI s).natAbs := by
  rw [← rint_num]
  have := numOf_append (s.take i) (s.drop i)
  rw [List.take_append_drop] at this
  have h1 := Nat.le_mul_of_pos_right (numOf (s.take i)) (show 0 < 10 ^ (s.drop i).length from Nat.pow_pos (by omega))
  omega
theorem in64 {n : Int} : inI64 n = true ↔ (-9223372036854775808 ≤ n ∧ n ≤ 9223372036854775807) := by unfold inI64; simp
def LO : List UInt8 := [45, 57, 50, 50, 51, 51, 55, 50, 48, 51, 54, 56, 53, 52, 55, 55, 53, 56, 48, 56]
def HI : List UInt8 := [57, 50, 50, 51, 51, 55, 50, 48, 51, 54, 56, 53, 52, 55, 55, 53, 56, 48, 55]
theorem lo_facts : RF [45, 57, 50, 50, 51, 51, 55, 50, 48, 51, 54, 56, 53, 52, 55, 55, 53, 56, 48, 56] ∧ numI [45, 57, 50, 50, 51, 51, 55, 50, 48, 51, 54, 56, 53, 52, 55, 55, 53, 56, 48, 56] = -9223372036854775808 := ⟨by unfold RF; decide, by decide⟩
theorem hi_facts : RF [57, 50, 50, 51, 51, 55, 50, 48, 51, 54, 56, 53, 52, 55, 55, 53, 56, 48, 55] ∧ numI [57, 50, 50, 51, 51, 55, 50, 48, 51, 54, 56, 53, 52, 55, 55, 53, 56, 48, 55] = 9223372036854775807 := ⟨by unfold RF; decide, by decide⟩
theorem rint_cond (n : Int) : (decide (cmpI n (numI [45, 57, 50, 50, 51, 51, 55, 50, 48, 51, 54, 56, 53, 52, 55, 55, 53, 56, 48, 56]) < 0) || decide (0 < cmpI n (numI [57, 50, 50, 51, 51, 55, 50, 48, 51, 54, 56, 53, 52, 55, 55, 53, 56, 48, 55]))) = !inI64 n := by
  rw [lo_facts.2, hi_facts.2]
  rw [Bool.eq_iff_iff]
  simp only [Bool.or_eq_true, decide_eq_true_eq, Bool.not_eq_true', Bool.eq_false_iff, ne_eq, in64]
  unfold cmpI
  constructor
  · rintro (h | h) <;> (repeat' split at h) <;> omega
  · intro h
    by_cases h1 : n < -9223372036854775808
    · left; rw [if_pos h1]; decide
    · right; rw [if_neg (by omega), if_pos (by omega)]; decide
theorem rint_out {n : Int} (h : inI64 n = false) : (0 = if inI64 n = true then n else 0) ∧ false = inI64 n := by rw [h]; exact ⟨rfl, rfl⟩
theorem rint_step {s : List UInt8} {k : Nat} (h : RF s) (hi : inI64 (numI s) = true) (hk : (k : Int) < (s.length : Int)) (hc : ((s.getD ((k : Int)).toNat 0).toNat : Int) ≠ 45) :
    IntKind.i64.wrap (IntKind.i64.wrap (10 * -(numOf (s.take k) : Int)) - IntKind.i64.wrap (IntKind.u8.wrap (((s.getD ((k : Int)).toNat 0).toNat : Int) - 48))) = -(numOf (s.take (k + 1)) : Int) := by
  rw [Int.toNat_natCast] at hc ⊢
  have h1 := (rint_at h (i := k) (by omega)).2 (by omega)
  have h2 := rint_next (s := s) (i := k) (by omega)
  have h3 := rint_le s (k + 1)
  rw [in64] at hi
  rw [w8 (by omega) (by omega), wi (x := ((s.getD k 0).toNat : Int) - 48) (by omega) (by omega), wi (x := 10 * -(numOf (s.take k) : Int)) (by omega) (by omega), wi (by omega) (by omega)]
  omega
theorem rint_skip {s : List UInt8} {k : Nat} (h : RF s) (hk : (k : Int) < (s.length : Int)) (hc : ((s.getD ((k : Int)).toNat 0).toNat : Int) = 45) : -(numOf (s.take k) : Int) = -(numOf (s.take (k + 1)) : Int) := by
  rw [Int.toNat_natCast] at hc
  have h1 := (rint_at h (i := k) (by omega)).1 (by omega)
  subst h1
  have h2 := rint_next (s := s) (i := 0) (by omega)
  rw [h2, show numOf (s.take 0) = 0 from by rw [List.take_zero]; rfl]
  omega
theorem rint_end {s : List UInt8} {k : Nat} (hi : inI64 (numI s) = true) (hk : k ≤ s.length) (hb : ¬ (k : Int) < (s.length : Int)) :
    (¬ numI s < 0 → (IntKind.i64.wrap (0 - -(numOf (s.take k) : Int)) = if inI64 (numI s) = true then numI s else 0) ∧ true = inI64 (numI s)) ∧ (numI s < 0 → (-(numOf (s.take k) : Int) = if inI64 (numI s) = true then numI s else 0) ∧ true = inI64 (numI s)) := by
  rw [List.take_of_length_le (by omega), rint_num, if_pos hi, hi]
  rw [in64] at hi
  exact ⟨fun h => ⟨by rw [wi (by omega) (by omega)]; omega, rfl⟩, fun h => ⟨by omega, rfl⟩⟩
theorem guard_not {c : Bool} {X : Prop} (x : X) : ((!c) = true → (!c) = true ∧ X) ∧ ((!c) = true → (!c) = true) ∧ (c = false → (!c) = true) := ⟨fun h => ⟨h, x⟩, fun h => h, fun h => by rw [h]; rfl⟩
theorem rg_fin {g x : Int} (h : RGPhi g x 0) : I64 (max x (IntKind.i64.wrap (0 - x))) ∧ max x (IntKind.i64.wrap (0 - x)) = g := by
  have e := rg_end h
  rw [show (0 - x : Int) = -x by omega, e.1]
  have := e.2.2
  have e2 : max x (-x) = g := by omega
  rw [e2]
  exact ⟨e.2.1, rfl⟩
end Go.Cm
end

section
/- The laws of chapter 1 beside the reference: sums. No program is in sight here. -/
namespace Go.Cm
open Go.Proofs

theorem trim_ge (s : List UInt8) : s.length ≤ (trimPre s [45]).length + 1 := by
  unfold trimPre
  split
  · simp
    omega
  · omega
theorem rs_of {s : List UInt8} (h : chk s = 0) : RS 2001 s :=
  ⟨by unfold RF; omega, by have h1 := (chk_ok h).2.2.1; have := trim_ge s; omega⟩
theorem short_rs {s : List UInt8} {n : Nat} (h : s.length ≤ n) (hn : n < 70368744177664) : Short s := Nat.lt_of_le_of_lt h hn

/-- What a result should be told as. -/
def toldB (s : List UInt8) (e w : Int) : Bool := if 2000 < ndig w then (s == []) && (e == 6) else (s == Lib.itoa w) && (e == 0)
theorem told_big {s w : List UInt8} {e : Int} (hb : 2000 < ndig (numI w)) : ((s == []) && (e == 6)) = toldB s e (numI w) := by unfold toldB; rw [if_pos hb]
theorem told_ok {s w : List UInt8} {e : Int} (h : RF w) (hb : ¬ 2000 < ndig (numI w)) : ((s == w) && (e == 0)) = toldB s e (numI w) := by unfold toldB; rw [if_neg hb, form_text h]
theorem told_app {e v : Int} (he : e = 0) : toldB (resS e v) (resE e v) v = true := by
  unfold toldB resS resE
  rw [if_pos he, if_pos he]
  split <;> simp

/-- A text that is not long. -/
def S3k (s : List UInt8) : Prop := s.length ≤ 3000
theorem S3k.short {s : List UInt8} (h : S3k s) : Short s := short_rs h (by decide)
theorem S3k.cap {s : List UInt8} (h : S3k s) : s.length < CAP := Nat.lt_of_le_of_lt h (by decide)
theorem nth_s {l : List (List UInt8)} {k : Nat} : nth .str l (k : Int) = l.getD k [] := rfl
theorem mul_abs {x y : Int} {n m : Nat} (hx : x.natAbs < 10 ^ n) (hy : y.natAbs < 10 ^ m) : (x * y).natAbs < 10 ^ (n + m) := by
  rw [Int.natAbs_mul, Nat.pow_add]
  exact Nat.mul_lt_mul'' hx hy
theorem itoa_cap {v : Int} {k : Nat} (hk : k ≤ 10000) (h : v.natAbs < 10 ^ k) : RF (Lib.itoa v) ∧ (Lib.itoa v).length < CAP :=
  (rs_itoa (k := k) (n := k + 2) h (Nat.le_refl _)).1.cap (by omega)
theorem op_itoa' {a b : List UInt8} {n : Nat} (hn : n ≤ 3000) (ra : RS n a) (rb : RS n b) :
    (RS 20000000000 a ∧ RS 20000000000 b) ∧ (RS 10000000000 a ∧ RS 10000000000 b) ∧ (RS 1000000000 a ∧ RS 1000000000 b) ∧ (RF (Lib.itoa (numI a + numI b)) ∧ (Lib.itoa (numI a + numI b)).length < CAP) ∧ (RF (Lib.itoa (numI a - numI b)) ∧ (Lib.itoa (numI a - numI b)).length < CAP) ∧ (RF (Lib.itoa (numI a * numI b)) ∧ (Lib.itoa (numI a * numI b)).length < CAP) ∧ (RF a ∧ a.length < CAP) ∧ RF b ∧ b.length < CAP := by
  have na := rs_num' ra
  have nb := rs_num' rb
  have e := pow_two na nb
  have em := mul_abs na nb
  exact ⟨⟨ra.up (by omega), rb.up (by omega)⟩, ⟨ra.up (by omega), rb.up (by omega)⟩, ⟨ra.up (by omega), rb.up (by omega)⟩, itoa_cap (k := n + 1) (by omega) (Nat.lt_of_le_of_lt (Int.natAbs_add_le _ _) e), itoa_cap (k := n + 1) (by omega) (Nat.lt_of_le_of_lt (by omega) e), itoa_cap (k := n + n) (by omega) em, ra.cap (by omega), rb.cap (by omega)⟩
theorem op_itoa {a b : List UInt8} (ha : chk a = 0) (hb : chk b = 0) :
    (RS 20000000000 a ∧ RS 20000000000 b) ∧ (RS 10000000000 a ∧ RS 10000000000 b) ∧ (RS 1000000000 a ∧ RS 1000000000 b) ∧ (RF (Lib.itoa (numI a + numI b)) ∧ (Lib.itoa (numI a + numI b)).length < CAP) ∧ (RF (Lib.itoa (numI a - numI b)) ∧ (Lib.itoa (numI a - numI b)).length < CAP) ∧ (RF (Lib.itoa (numI a * numI b)) ∧ (Lib.itoa (numI a * numI b)).length < CAP) ∧ (RF a ∧ a.length < CAP) ∧ RF b ∧ b.length < CAP :=
  op_itoa' (by decide) (rs_of ha) (rs_of hb)

theorem sums_bad {a b : List UInt8} {k : Nat} (hk : k < 2) (h : chk ([a, b].getD k []) ≠ 0) (hp : ∀ j < k, chk ([a, b].getD j []) = 0) : chkAll [a, b] = chk ([a, b].getD k []) := by
  match k, hk with
  | 0, _ =>
    exact if_neg h
  | 1, _ =>
    have h0 : chk a = 0 := hp 0 (by omega)
    show (if chk a = 0 then (if chk b = 0 then 0 else chk b) else chk a) = chk b
    rw [if_pos h0]
    exact if_neg h
theorem sums_good {a b : List UInt8} {k : Nat} (hk : k ≤ 2) (hb : ¬ (k : Int) < 2) (hp : ∀ j < k, chk ([a, b].getD j []) = 0) : chk a = 0 ∧ chk b = 0 ∧ chkAll [a, b] = 0 := by
  have h0 : chk a = 0 := hp 0 (by omega)
  have h1 : chk b = 0 := hp 1 (by omega)
  refine ⟨h0, h1, ?_⟩
  show (if chk a = 0 then (if chk b = 0 then 0 else chk b) else chk a) = 0
  rw [if_pos h0, if_pos h1]
theorem bad_vals {e v : Int} (h : e ≠ 0) : resS e v = [] ∧ resE e v = e := by unfold resS resE; rw [if_neg h, if_neg h]; exact ⟨rfl, rfl⟩
theorem cmp_bad' {a b : List UInt8} (h : chkAll [a, b] ≠ 0) : cmpV a b = 0 := by unfold cmpV; rw [if_neg h]
theorem cmp_good' {a b : List UInt8} (h : chkAll [a, b] = 0) : cmpV a b = cmpI (numI a) (numI b) := by unfold cmpV; rw [if_pos h]
theorem two_at {a b : List UInt8} (h : S3k a ∧ S3k b) {k : Nat} (hk : k < 2) : S3k ([a, b].getD k []) := by
  match k, hk with
  | 0, _ => exact h.1
  | 1, _ => exact h.2
theorem four_at {a b c d : List UInt8} (h : S3k a ∧ S3k b ∧ S3k c ∧ S3k d) {k : Nat} (hk : k < 4) : S3k ([a, b, c, d].getD k []) := by
  match k, hk with
  | 0, _ => exact h.1
  | 1, _ => exact h.2.1
  | 2, _ => exact h.2.2.1
  | 3, _ => exact h.2.2.2
theorem two_next {a b : List UInt8} {k : Nat} (hp : ∀ j < k, chk ([a, b].getD j []) = 0) (h : chk ([a, b].getD k []) = 0) : ∀ j < k + 1, chk ([a, b].getD j []) = 0 := fun j hj => by
  by_cases e : j = k
  · subst e; exact h
  · exact hp j (by omega)
theorem int_vals_bad {s : List UInt8} (h : chk s ≠ 0) : intV s = 0 ∧ intE s = chk s := by
  unfold intV intE; rw [if_neg (fun g => h g.1), if_neg h]; exact ⟨rfl, rfl⟩
theorem int_vals {s : List UInt8} (h : chk s = 0) : intV s = (if inI64 (numI s) = true then numI s else 0) ∧ intE s = (if inI64 (numI s) = true then 0 else 6) := by
  unfold intV intE; rw [if_pos h]
  refine ⟨?_, rfl⟩
  by_cases g : inI64 (numI s) = true
  · rw [if_pos ⟨h, g⟩, if_pos g]
  · rw [if_neg (fun x => g x.2), if_neg g]
theorem sm60 (s : List UInt8) : S3k (s.take 60) := by unfold S3k; rw [List.length_take]; omega
theorem cut_eq (s : List UInt8) : List.drop (Int.toNat 0) (List.take (min (s.length : Int) 60).toNat s) = s.take 60 := by
  show List.take (min (s.length : Int) 60).toNat s = _
  by_cases h : s.length ≤ 60
  · rw [List.take_of_length_le (by omega), List.take_of_length_le (by omega)]
  · rw [show (min (s.length : Int) 60).toNat = 60 by omega]
theorem d_sm {d : Bool × List Int × Int} (h : DOK d) : S3k (dtext d) := by have h1 := (chk_ok (dtext_ok h).1).2.2.1; have := trim_ge (dtext d); unfold S3k; omega

end Go.Cm
end

section
/- The functions of the package exact, one after the other: each meets its contract. -/
set_option linter.unusedSimpArgs false
set_option linter.unusedVariables false
set_option maxRecDepth 100000
namespace Go.Proofs.YtkgbdpmhdplddaaGreatDoor
open Go Go.Cm Go.Proofs

def tab50 (B : Base) : Tab := { types := [(3, (.int .i64)), (61, (.slice (.int .u32))), (89, (.int .u32))], elems := [(61, 89)], cons := [], hint := [], N := 56, base := B }
theorem good50 {B : Base} (hB : Tabs B) : MGood Tryz.prog (tab50 B) := ⟨⟨types_cons ty3 (types_cons ty61 (types_cons ty89 (types_nil))), elems_cons (by kernel_rfl) (elems_nil), by simp only [tab50, ioB]; omega⟩, cons_nil rfl, by kernel_rfl⟩
def cPlus : Con := fun l os => match l, os with
  | [.z (.slice (.int .u32)) m, .z (.slice (.int .u32)) o], [] => some (Cano m ∧ Cano o ∧ m.length + o.length < CAP, [.z (.slice (.int .u32)) (limbs (valL m + valL o).toNat)], [])
  | _, _ => none

theorem valid50 {B : Base} (hB : Tabs B) : Valid B Tryz.prog 77 cPlus := by
  refine valid_of_J (T := tab50 B) (good50 hB).tab Tryz.func77 rfl rfl rfl ?_
  intro args os C rs os' hc hC
  unfold cPlus at hc
  split at hc
  case h_2 => cases hc
  rename_i m o
  cases hc
  refine ⟨by simp only [List.length_cons, List.length_nil, tab50]; omega, rfl, ?_⟩
  intro X hP hT hr
  have hG : MGood X.P X.T := by rw [hP, hT]; exact good50 hB
  unfold tab50 at hT
  have hX := Bool.not_true
  simp only [Tryz.f77, argEnv, ioList, ioB]
  refine r_seq ?_
  refine q_region hG ?_ ?_ -- R0
  · trivial
  refine k_seq ?_
  refine r_cut (fun (z : List Int × List Int) => (⟨[(0, .l (.z (.slice (.int .u32)) z.1)), (1, .l (.z (.slice (.int .u32)) z.2))], []⟩ : AState)) (fun z => Cano z.1 ∧ Cano z.2 ∧ z.2.length ≤ z.1.length ∧ z.1.length < CAP ∧ valL z.1 + valL z.2 = valL m + valL o) ?_ ?_
  · refine r_seq ?_
    refine q_region hG ?_ ?_ -- R1
    · trivial
    refine k_seq ?_
    refine q_cond ?_ ?_
    · intro hb0
      try simp only [decide_eq_true_eq, decide_eq_false_iff_not, beq_iff_eq, bne_iff_ne, Bool.not_eq_true', Bool.and_eq_true] at hb0
      refine q_region hG ?_ ?_ -- R2
      · trivial
      show ∃ z, _
      simp only [ml0, ml1, Nat.reduceLT, Nat.reduceEqDiff, Nat.reduceAdd, Nat.reduceMul, Nat.reduceSub, Nat.reduceLeDiff, Nat.reduceBEq, Nat.reduceBNe, reduceIte, reduceDIte, reduceCtorEq]
      obtain ⟨c1, c2, c3⟩ := hC
      first | exact ⟨c2, c1, by omega, by omega, Int.add_comm _ _⟩ | exact ⟨c1, c2, by omega, by omega⟩
    · intro hb0
      try simp only [decide_eq_true_eq, decide_eq_false_iff_not, beq_eq_false_iff_ne, bne_eq_false_iff_eq, Bool.not_eq_false', Bool.and_eq_false_imp] at hb0
      refine r_skip ?_
      show ∃ z, _
      simp only [ml0, ml1, Nat.reduceLT, Nat.reduceEqDiff, Nat.reduceAdd, Nat.reduceMul, Nat.reduceSub, Nat.reduceLeDiff, Nat.reduceBEq, Nat.reduceBNe, reduceIte, reduceDIte, reduceCtorEq]
      obtain ⟨c1, c2, c3⟩ := hC
      first | exact ⟨c2, c1, by omega, by omega, Int.add_comm _ _⟩ | exact ⟨c1, c2, by omega, by omega⟩
  rintro ⟨m, o⟩ ⟨h1, h2, h3, h4, h5⟩
  try dsimp only at h1 h2 h3 h4 h5
  have h4 : m.length < 1000000000000 := h4
  refine r_seq ?_
  refine q_region hG ?_ ?_ -- R3
  · try simp only [and_true, true_and]
    rw [wi (by omega) (by omega)]
    exact ⟨by omega, by omega, by unfold Cm.Roomy; omega⟩
  refine k_seq ?_
  refine r_seq ?_
  refine q_region hG ?_ ?_ -- R4
  · trivial
  refine k_seq ?_
  refine r_seq ?_
  refine r_seq ?_
  refine q_region hG ?_ ?_ -- R5
  · trivial
  refine k_seq ?_
  refine j_block ?_
  refine j_loop (fun (z : Nat × Int × List Int) => (⟨[(0, .l (.z (.slice (.int .u32)) m)), (1, .l (.z (.slice (.int .u32)) o)), (5, .l (.ownS 20)), (6, .l (.z (.int .u32) z.2.1)), (21, .l (.z (.slice (.int .u32)) m)), (22, .l (.z (.int .i64) (m.length : Int))), (23, .l (.z (.int .i64) (z.1 : Int)))], [(20, .arr (.int .u32) 89 z.2.2)]⟩ : AState)) (fun z => z.1 ≤ m.length ∧ z.2.2.length = z.1 ∧ Lim z.2.2 ∧ 0 ≤ z.2.1 ∧ z.2.1 ≤ 1 ∧ valL z.2.2 + LB ^ z.1 * z.2.1 = valL (m.take z.1) + valL (o.take z.1)) (fun z => m.length - z.1) (0, 0, []) ?_ ?_ ?_
  · simp only [ml0, ml1, Nat.reduceLT, Nat.reduceEqDiff, Nat.reduceAdd, Nat.reduceMul, Nat.reduceSub, Nat.reduceLeDiff, Nat.reduceBEq, Nat.reduceBNe, reduceIte, reduceDIte, reduceCtorEq]
    exact ⟨rfl, rfl⟩
  · simp [Lim, valL]
  · rintro ⟨k, c, out⟩ ⟨g1, g2, g3, g4, g5, g6⟩
    try dsimp only at g1 g2 g3 g4 g5 g6
    refine r_seq ?_
    refine q_region hG ?_ ?_ -- R6
    · trivial
    refine k_seq ?_
    refine r_seq ?_
    refine q_cond ?_ ?_
    · intro hb1
      try simp only [decide_eq_true_eq, decide_eq_false_iff_not, beq_iff_eq, bne_iff_ne, Bool.not_eq_true', Bool.and_eq_true] at hb1
      refine r_skip ?_
      refine k_seq ?_
      refine r_seq ?_
      refine j_block ?_
      refine r_seq ?_
      refine q_region hG ?_ ?_ -- R7
      · try simp only [and_true, true_and]
        exact ⟨by omega, hb1⟩
      refine k_seq ?_
      refine r_seq ?_
      refine q_region hG ?_ ?_ -- R8
      · trivial
      refine k_seq ?_
      refine r_cut (fun (z : Int) => (⟨[(0, .l (.z (.slice (.int .u32)) m)), (1, .l (.z (.slice (.int .u32)) o)), (5, .l (.ownS 20)), (9, .l (.z (.int .u32) z)), (21, .l (.z (.slice (.int .u32)) m)), (22, .l (.z (.int .i64) (m.length : Int))), (23, .l (.z (.int .i64) (k : Int)))], [(20, .arr (.int .u32) 89 out)]⟩ : AState)) (fun z => z = m.getD k 0 + c + o.getD k 0) ?_ ?_
      · refine r_seq ?_
        refine q_region hG ?_ ?_ -- R9
        · trivial
        refine k_seq ?_
        refine q_cond ?_ ?_
        · intro hb2
          try simp only [decide_eq_true_eq, decide_eq_false_iff_not, beq_iff_eq, bne_iff_ne, Bool.not_eq_true', Bool.and_eq_true] at hb2
          refine q_region hG ?_ ?_ -- R10
          · try simp only [and_true, true_and]
            exact ⟨by omega, hb2⟩
          show ∃ z, _
          simp only [ml0, ml1, Nat.reduceLT, Nat.reduceEqDiff, Nat.reduceAdd, Nat.reduceMul, Nat.reduceSub, Nat.reduceLeDiff, Nat.reduceBEq, Nat.reduceBNe, reduceIte, reduceDIte, reduceCtorEq]
          have hw := plus_wrap (h1.1.getD k) (h2.1.getD k) ⟨g4, g5⟩
          first | exact hw.2 | (rw [nth32, hw.1, List.getD_eq_getElem?_getD (l := o), List.getElem?_eq_none (by omega)]; simp)
        · intro hb2
          try simp only [decide_eq_true_eq, decide_eq_false_iff_not, beq_eq_false_iff_ne, bne_eq_false_iff_eq, Bool.not_eq_false', Bool.and_eq_false_imp] at hb2
          refine r_skip ?_
          show ∃ z, _
          simp only [ml0, ml1, Nat.reduceLT, Nat.reduceEqDiff, Nat.reduceAdd, Nat.reduceMul, Nat.reduceSub, Nat.reduceLeDiff, Nat.reduceBEq, Nat.reduceBNe, reduceIte, reduceDIte, reduceCtorEq]
          have hw := plus_wrap (h1.1.getD k) (h2.1.getD k) ⟨g4, g5⟩
          first | exact hw.2 | (rw [nth32, hw.1, List.getD_eq_getElem?_getD (l := o), List.getElem?_eq_none (by omega)]; simp)
      rintro n hn
      try dsimp only at hn
      refine r_seq ?_
      refine q_region hG ?_ ?_ -- R11
      · trivial
      refine k_seq ?_
      refine q_region hG ?_ ?_ -- R12
      · try simp only [and_true, true_and]
        exact ⟨by omega, by unfold Cm.Roomy; omega⟩
      refine k_block ?_
      refine k_seq ?_
      refine q_region hG ?_ ?_ -- R13
      · trivial
      show ∃ z, _
      simp only [ml0, ml1, Nat.reduceLT, Nat.reduceEqDiff, Nat.reduceAdd, Nat.reduceMul, Nat.reduceSub, Nat.reduceLeDiff, Nat.reduceBEq, Nat.reduceBNe, reduceIte, reduceDIte, reduceCtorEq]
      obtain ⟨q1, q2, q3, q4⟩ := plus_round h1.1 h2.1 g2 g3 g4 g5 g6 hn
      exact ⟨k + 1, by rw [wi (by omega) (by omega)]; simp, by omega, by simp [g2], q1, q2, q3, q4, by omega⟩
    · intro hb1
      try simp only [decide_eq_true_eq, decide_eq_false_iff_not, beq_eq_false_iff_ne, bne_eq_false_iff_eq, Bool.not_eq_false', Bool.and_eq_false_imp] at hb1
      refine r_exit ?_
      refine k_seq_exit ?_
      refine k_round_exit ?_
      refine k_block_exit ?_
      refine k_seq ?_
      refine r_cut (fun (z : List Int) => (⟨[(5, .l (.ownS 20))], [(20, .arr (.int .u32) 89 z)]⟩ : AState)) (fun z => z = limbs (valL m + valL o).toNat) ?_ ?_
      · refine r_seq ?_
        refine q_region hG ?_ ?_ -- R14
        · trivial
        refine k_seq ?_
        refine q_cond ?_ ?_
        · intro hb3
          try simp only [decide_eq_true_eq, decide_eq_false_iff_not, beq_iff_eq, bne_iff_ne, Bool.not_eq_true', Bool.and_eq_true] at hb3
          refine q_region hG ?_ ?_ -- R15
          · try simp only [and_true, true_and]
            unfold Cm.Roomy; omega
          show ∃ z, _
          simp only [ml0, ml1, Nat.reduceLT, Nat.reduceEqDiff, Nat.reduceAdd, Nat.reduceMul, Nat.reduceSub, Nat.reduceLeDiff, Nat.reduceBEq, Nat.reduceBNe, reduceIte, reduceDIte, reduceCtorEq]
          have he := plus_end (out := out) (c := c) h1 h2 h3 (by omega) g3 g4 g5 (by rw [show k = m.length by omega, List.take_length, List.take_of_length_le h3] at g6; exact g6)
          first | exact he.1 hb3 | exact he.2 hb3
        · intro hb3
          try simp only [decide_eq_true_eq, decide_eq_false_iff_not, beq_eq_false_iff_ne, bne_eq_false_iff_eq, Bool.not_eq_false', Bool.and_eq_false_imp] at hb3
          refine r_skip ?_
          show ∃ z, _
          simp only [ml0, ml1, Nat.reduceLT, Nat.reduceEqDiff, Nat.reduceAdd, Nat.reduceMul, Nat.reduceSub, Nat.reduceLeDiff, Nat.reduceBEq, Nat.reduceBNe, reduceIte, reduceDIte, reduceCtorEq]
          have he := plus_end (out := out) (c := c) h1 h2 h3 (by omega) g3 g4 g5 (by rw [show k = m.length by omega, List.take_length, List.take_of_length_le h3] at g6; exact g6)
          first | exact he.1 hb3 | exact he.2 hb3
      rintro out2 hout
      try dsimp only at hout
      refine r_seq ?_
      refine q_region hG ?_ ?_ -- R16
      · trivial
      refine k_seq ?_
      refine r_ret ?_
      refine ⟨[], ?_⟩
      simp only [hT, tab50, mr0, mr1, mr2, Nat.reduceLT, Nat.reduceEqDiff, Nat.reduceAdd, Nat.reduceMul, Nat.reduceSub, Nat.reduceLeDiff, Nat.reduceBEq, Nat.reduceBNe, reduceIte, reduceDIte, reduceCtorEq]
      rw [hout, h5]

def tab73 (B : Base) : Tab := { types := [(3, (.int .i64))], elems := [], cons := [], hint := [], N := 6, base := B }
theorem good73 {B : Base} (hB : Tabs B) : MGood Tryz.prog (tab73 B) := ⟨⟨types_cons ty3 (types_nil), elems_nil, by simp only [tab73, ioB]; omega⟩, cons_nil rfl, by kernel_rfl⟩
def cNaNi : Con := fun l os => match l, os with
  | [.z (.int .i64) a], [] => some (True, [.z .bool false], [])
  | _, _ => none

theorem valid73 {B : Base} (hB : Tabs B) : Valid B Tryz.prog 91 cNaNi := by
  refine valid_of_J (T := tab73 B) (good73 hB).tab Tryz.func91 rfl rfl rfl ?_
  intro args os C rs os' hc hC
  unfold cNaNi at hc
  split at hc
  case h_2 => cases hc
  rename_i a
  cases hc
  refine ⟨by simp only [List.length_cons, List.length_nil, tab73]; omega, rfl, ?_⟩
  intro X hP hT hr
  have hG : MGood X.P X.T := by rw [hP, hT]; exact good73 hB
  unfold tab73 at hT
  have hX := Bool.not_true
  simp only [Tryz.f91, argEnv, ioList, ioB]
  refine r_seq ?_
  refine q_region hG ?_ ?_ -- R0
  · trivial
  refine k_seq ?_
  refine r_seq ?_
  refine q_region hG ?_ ?_ -- R1
  · trivial
  refine k_seq ?_
  refine r_ret ?_
  refine ⟨[], ?_⟩
  simp only [hT, tab73, mr0, mr1, mr2, Nat.reduceLT, Nat.reduceEqDiff, Nat.reduceAdd, Nat.reduceMul, Nat.reduceSub, Nat.reduceLeDiff, Nat.reduceBEq, Nat.reduceBNe, reduceIte, reduceDIte, reduceCtorEq]
  skip

def tab77 (B : Base) : Tab := { types := [(89, (.int .u32))], elems := [], cons := [], hint := [], N := 6, base := B }
theorem good77 {B : Base} (hB : Tabs B) : MGood Tryz.prog (tab77 B) := ⟨⟨types_cons ty89 (types_nil), elems_nil, by simp only [tab77, ioB]; omega⟩, cons_nil rfl, by kernel_rfl⟩
def cNaNu : Con := fun l os => match l, os with
  | [.z (.int .u32) a], [] => some (True, [.z .bool false], [])
  | _, _ => none

theorem valid77 {B : Base} (hB : Tabs B) : Valid B Tryz.prog 101 cNaNu := by
  refine valid_of_J (T := tab77 B) (good77 hB).tab Tryz.func101 rfl rfl rfl ?_
  intro args os C rs os' hc hC
  unfold cNaNu at hc
  split at hc
  case h_2 => cases hc
  rename_i a
  cases hc
  refine ⟨by simp only [List.length_cons, List.length_nil, tab77]; omega, rfl, ?_⟩
  intro X hP hT hr
  have hG : MGood X.P X.T := by rw [hP, hT]; exact good77 hB
  unfold tab77 at hT
  have hX := Bool.not_true
  simp only [Tryz.f101, argEnv, ioList, ioB]
  refine r_seq ?_
  refine q_region hG ?_ ?_ -- R0
  · trivial
  refine k_seq ?_
  refine r_seq ?_
  refine q_region hG ?_ ?_ -- R1
  · trivial
  refine k_seq ?_
  refine r_ret ?_
  refine ⟨[], ?_⟩
  simp only [hT, tab77, mr0, mr1, mr2, Nat.reduceLT, Nat.reduceEqDiff, Nat.reduceAdd, Nat.reduceMul, Nat.reduceSub, Nat.reduceLeDiff, Nat.reduceBEq, Nat.reduceBNe, reduceIte, reduceDIte, reduceCtorEq]
  skip

def tab58 (B : Base) : Tab := { types := [(3, (.int .i64))], elems := [], cons := [(91, cNaNi)], hint := [], N := 20, base := B }
theorem good58 {B : Base} (hB : Tabs B) : MGood Tryz.prog (tab58 B) := ⟨⟨types_cons ty3 (types_nil), elems_nil, by simp only [tab58, ioB]; omega⟩, cons_ok (cals_cons (cal_ok Tryz.func91 (by kernel_rfl) rfl (valid73 hB)) (cals_nil)), by kernel_rfl⟩
def cCmpi : Con := fun l os => match l, os with
  | [.z (.int .i64) a, .z (.int .i64) b], [] => some (True, [.z (.int .i64) (cmpI a b)], [])
  | _, _ => none

theorem valid58 {B : Base} (hB : Tabs B) : Valid B Tryz.prog 75 cCmpi := by
  refine valid_of_J (T := tab58 B) (good58 hB).tab Tryz.func75 rfl rfl rfl ?_
  intro args os C rs os' hc hC
  unfold cCmpi at hc
  split at hc
  case h_2 => cases hc
  rename_i a b
  cases hc
  refine ⟨by simp only [List.length_cons, List.length_nil, tab58]; omega, rfl, ?_⟩
  intro X hP hT hr
  have hG : MGood X.P X.T := by rw [hP, hT]; exact good58 hB
  unfold tab58 at hT
  have hX := @cNaNi.eq_1
  simp only [Tryz.f75, argEnv, ioList, ioB]
  refine r_seq ?_
  refine q_region hG ?_ ?_ -- R0
  · trivial
  refine k_seq ?_
  refine r_seq ?_
  refine q_region hG ?_ ?_ -- R1
  · trivial
  refine k_seq ?_
  refine r_seq ?_
  refine q_region hG ?_ ?_ -- R2
  · trivial
  refine k_seq ?_
  refine r_seq ?_
  refine r_seq ?_
  refine q_region hG ?_ ?_ -- R3
  · trivial
  refine k_seq ?_
  refine q_cond ?_ ?_
  · intro hb0
    cases hb0
  · intro hb0
    try simp only [decide_eq_true_eq, decide_eq_false_iff_not, beq_eq_false_iff_ne, bne_eq_false_iff_eq, Bool.not_eq_false', Bool.and_eq_false_imp] at hb0
    refine r_skip ?_
    refine k_seq ?_
    refine r_seq ?_
    refine r_seq ?_
    refine q_region hG ?_ ?_ -- R7
    · trivial
    refine k_seq ?_
    refine q_cond ?_ ?_
    · intro hb1
      cases hb1
    · intro hb1
      try simp only [decide_eq_true_eq, decide_eq_false_iff_not, beq_eq_false_iff_ne, bne_eq_false_iff_eq, Bool.not_eq_false', Bool.and_eq_false_imp] at hb1
      refine r_skip ?_
      refine k_seq ?_
      refine r_seq ?_
      refine r_seq ?_
      refine q_region hG ?_ ?_ -- R9
      · trivial
      refine k_seq ?_
      refine q_cond ?_ ?_
      · intro hb2
        try simp only [decide_eq_true_eq, decide_eq_false_iff_not, beq_iff_eq, bne_iff_ne, Bool.not_eq_true', Bool.and_eq_true] at hb2
        refine r_seq ?_
        refine q_region hG ?_ ?_ -- R10
        · trivial
        refine k_seq ?_
        refine r_ret ?_
        refine k_seq_ret ?_
        refine ⟨[], ?_⟩
        simp only [hT, tab58, mr0, mr1, mr2, Nat.reduceLT, Nat.reduceEqDiff, Nat.reduceAdd, Nat.reduceMul, Nat.reduceSub, Nat.reduceLeDiff, Nat.reduceBEq, Nat.reduceBNe, reduceIte, reduceDIte, reduceCtorEq]
        rw [cmpI, if_pos hb2]
      · intro hb2
        try simp only [decide_eq_true_eq, decide_eq_false_iff_not, beq_eq_false_iff_ne, bne_eq_false_iff_eq, Bool.not_eq_false', Bool.and_eq_false_imp] at hb2
        refine r_skip ?_
        refine k_seq ?_
        refine r_seq ?_
        refine r_seq ?_
        refine q_region hG ?_ ?_ -- R11
        · trivial
        refine k_seq ?_
        refine q_cond ?_ ?_
        · intro hb3
          try simp only [decide_eq_true_eq, decide_eq_false_iff_not, beq_iff_eq, bne_iff_ne, Bool.not_eq_true', Bool.and_eq_true] at hb3
          refine r_seq ?_
          refine q_region hG ?_ ?_ -- R12
          · trivial
          refine k_seq ?_
          refine r_ret ?_
          refine k_seq_ret ?_
          refine ⟨[], ?_⟩
          simp only [hT, tab58, mr0, mr1, mr2, Nat.reduceLT, Nat.reduceEqDiff, Nat.reduceAdd, Nat.reduceMul, Nat.reduceSub, Nat.reduceLeDiff, Nat.reduceBEq, Nat.reduceBNe, reduceIte, reduceDIte, reduceCtorEq]
          rw [cmpI, if_neg (by omega), if_pos hb3]
        · intro hb3
          try simp only [decide_eq_true_eq, decide_eq_false_iff_not, beq_eq_false_iff_ne, bne_eq_false_iff_eq, Bool.not_eq_false', Bool.and_eq_false_imp] at hb3
          refine r_skip ?_
          refine k_seq ?_
          refine r_seq ?_
          refine q_region hG ?_ ?_ -- R13
          · trivial
          refine k_seq ?_
          refine r_ret ?_
          refine ⟨[], ?_⟩
          simp only [hT, tab58, mr0, mr1, mr2, Nat.reduceLT, Nat.reduceEqDiff, Nat.reduceAdd, Nat.reduceMul, Nat.reduceSub, Nat.reduceLeDiff, Nat.reduceBEq, Nat.reduceBNe, reduceIte, reduceDIte, reduceCtorEq]
          rw [cmpI, if_neg hb2, if_neg hb3]

def tab66 (B : Base) : Tab := { types := [(89, (.int .u32))], elems := [], cons := [(101, cNaNu)], hint := [], N := 20, base := B }
theorem good66 {B : Base} (hB : Tabs B) : MGood Tryz.prog (tab66 B) := ⟨⟨types_cons ty89 (types_nil), elems_nil, by simp only [tab66, ioB]; omega⟩, cons_ok (cals_cons (cal_ok Tryz.func101 (by kernel_rfl) rfl (valid77 hB)) (cals_nil)), by kernel_rfl⟩
def cCmpu : Con := fun l os => match l, os with
  | [.z (.int .u32) a, .z (.int .u32) b], [] => some (True, [.z (.int .i64) (cmpI a b)], [])
  | _, _ => none

theorem valid66 {B : Base} (hB : Tabs B) : Valid B Tryz.prog 92 cCmpu := by
  refine valid_of_J (T := tab66 B) (good66 hB).tab Tryz.func92 rfl rfl rfl ?_
  intro args os C rs os' hc hC
  unfold cCmpu at hc
  split at hc
  case h_2 => cases hc
  rename_i a b
  cases hc
  refine ⟨by simp only [List.length_cons, List.length_nil, tab66]; omega, rfl, ?_⟩
  intro X hP hT hr
  have hG : MGood X.P X.T := by rw [hP, hT]; exact good66 hB
  unfold tab66 at hT
  have hX := @cNaNu.eq_1
  simp only [Tryz.f92, argEnv, ioList, ioB]
  refine r_seq ?_
  refine q_region hG ?_ ?_ -- R0
  · trivial
  refine k_seq ?_
  refine r_seq ?_
  refine q_region hG ?_ ?_ -- R1
  · trivial
  refine k_seq ?_
  refine r_seq ?_
  refine q_region hG ?_ ?_ -- R2
  · trivial
  refine k_seq ?_
  refine r_seq ?_
  refine r_seq ?_
  refine q_region hG ?_ ?_ -- R3
  · trivial
  refine k_seq ?_
  refine q_cond ?_ ?_
  · intro hb0
    cases hb0
  · intro hb0
    try simp only [decide_eq_true_eq, decide_eq_false_iff_not, beq_eq_false_iff_ne, bne_eq_false_iff_eq, Bool.not_eq_false', Bool.and_eq_false_imp] at hb0
    refine r_skip ?_
    refine k_seq ?_
    refine r_seq ?_
    refine r_seq ?_
    refine q_region hG ?_ ?_ -- R7
    · trivial
    refine k_seq ?_
    refine q_cond ?_ ?_
    · intro hb1
      cases hb1
    · intro hb1
      try simp only [decide_eq_true_eq, decide_eq_false_iff_not, beq_eq_false_iff_ne, bne_eq_false_iff_eq, Bool.not_eq_false', Bool.and_eq_false_imp] at hb1
      refine r_skip ?_
      refine k_seq ?_
      refine r_seq ?_
      refine r_seq ?_
      refine q_region hG ?_ ?_ -- R9
      · trivial
      refine k_seq ?_
      refine q_cond ?_ ?_
      · intro hb2
        try simp only [decide_eq_true_eq, decide_eq_false_iff_not, beq_iff_eq, bne_iff_ne, Bool.not_eq_true', Bool.and_eq_true] at hb2
        refine r_seq ?_
        refine q_region hG ?_ ?_ -- R10
        · trivial
        refine k_seq ?_
        refine r_ret ?_
        refine k_seq_ret ?_
        refine ⟨[], ?_⟩
        simp only [hT, tab66, mr0, mr1, mr2, Nat.reduceLT, Nat.reduceEqDiff, Nat.reduceAdd, Nat.reduceMul, Nat.reduceSub, Nat.reduceLeDiff, Nat.reduceBEq, Nat.reduceBNe, reduceIte, reduceDIte, reduceCtorEq]
        rw [cmpI, if_pos hb2]
      · intro hb2
        try simp only [decide_eq_true_eq, decide_eq_false_iff_not, beq_eq_false_iff_ne, bne_eq_false_iff_eq, Bool.not_eq_false', Bool.and_eq_false_imp] at hb2
        refine r_skip ?_
        refine k_seq ?_
        refine r_seq ?_
        refine r_seq ?_
        refine q_region hG ?_ ?_ -- R11
        · trivial
        refine k_seq ?_
        refine q_cond ?_ ?_
        · intro hb3
          try simp only [decide_eq_true_eq, decide_eq_false_iff_not, beq_iff_eq, bne_iff_ne, Bool.not_eq_true', Bool.and_eq_true] at hb3
          refine r_seq ?_
          refine q_region hG ?_ ?_ -- R12
          · trivial
          refine k_seq ?_
          refine r_ret ?_
          refine k_seq_ret ?_
          refine ⟨[], ?_⟩
          simp only [hT, tab66, mr0, mr1, mr2, Nat.reduceLT, Nat.reduceEqDiff, Nat.reduceAdd, Nat.reduceMul, Nat.reduceSub, Nat.reduceLeDiff, Nat.reduceBEq, Nat.reduceBNe, reduceIte, reduceDIte, reduceCtorEq]
          rw [cmpI, if_neg (by omega), if_pos hb3]
        · intro hb3
          try simp only [decide_eq_true_eq, decide_eq_false_iff_not, beq_eq_false_iff_ne, bne_eq_false_iff_eq, Bool.not_eq_false', Bool.and_eq_false_imp] at hb3
          refine r_skip ?_
          refine k_seq ?_
          refine r_seq ?_
          refine q_region hG ?_ ?_ -- R13
          · trivial
          refine k_seq ?_
          refine r_ret ?_
          refine ⟨[], ?_⟩
          simp only [hT, tab66, mr0, mr1, mr2, Nat.reduceLT, Nat.reduceEqDiff, Nat.reduceAdd, Nat.reduceMul, Nat.reduceSub, Nat.reduceLeDiff, Nat.reduceBEq, Nat.reduceBNe, reduceIte, reduceDIte, reduceCtorEq]
          rw [cmpI, if_neg hb2, if_neg hb3]

def tab49 (B : Base) : Tab := { types := [(3, (.int .i64)), (61, (.slice (.int .u32))), (63, (.st (.pair .bool (.slice (.int .u32))))), (89, (.int .u32))], elems := [], cons := [], hint := [], N := 30, base := B }
theorem good49 {B : Base} (hB : Tabs B) : MGood Tryz.prog (tab49 B) := ⟨⟨types_cons ty3 (types_cons ty61 (types_cons ty63 (types_cons ty89 (types_nil)))), elems_nil, by simp only [tab49, ioB]; omega⟩, cons_nil rfl, by kernel_rfl⟩
def cWhole : Con := fun l os => match l, os with
  | [.z .bool s, .z (.slice (.int .u32)) m], [] => some (Lim m ∧ m.length < CAP, [.z (.st (.pair .bool (.slice (.int .u32)))) (enc (dec (s, m)))], [])
  | _, _ => none

theorem valid49 {B : Base} (hB : Tabs B) : Valid B Tryz.prog 66 cWhole := by
  refine valid_of_J (T := tab49 B) (good49 hB).tab Tryz.func66 rfl rfl rfl ?_
  intro args os C rs os' hc hC
  unfold cWhole at hc
  split at hc
  case h_2 => cases hc
  rename_i s m
  cases hc
  refine ⟨by simp only [List.length_cons, List.length_nil, tab49]; omega, rfl, ?_⟩
  intro X hP hT hr
  have hG : MGood X.P X.T := by rw [hP, hT]; exact good49 hB
  unfold tab49 at hT
  have hX := Bool.not_true
  simp only [Tryz.f66, argEnv, ioList, ioB]
  refine r_seq ?_
  refine q_region hG ?_ ?_ -- R0
  · trivial
  refine k_seq ?_
  refine r_seq ?_
  refine j_block ?_
  refine j_loop (fun (z : List Int) => (⟨[(0, .l (.z .bool s)), (1, .l (.z (.slice (.int .u32)) z)), (4, .l (.ownP 4 0))], [(4, .box 63 [.z .bool false, .val (.slice none 0 0)])]⟩ : AState)) (fun z => Lim z ∧ valL z = valL m ∧ z.length ≤ m.length) (fun z => z.length) m ?_ ?_ ?_
  · simp only [ml0, ml1, Nat.reduceLT, Nat.reduceEqDiff, Nat.reduceAdd, Nat.reduceMul, Nat.reduceSub, Nat.reduceLeDiff, Nat.reduceBEq, Nat.reduceBNe, reduceIte, reduceDIte, reduceCtorEq]
  · exact ⟨hC.1, rfl, Nat.le_refl _⟩
  · rintro z ⟨g1, g2, g3⟩
    try dsimp only at g1 g2 g3
    have h4 : z.length < 1000000000000 := Nat.lt_of_le_of_lt g3 hC.2
    refine r_seq ?_
    refine r_seq ?_
    refine q_region hG ?_ ?_ -- R1
    · try simp only [and_true, true_and]
      exact ⟨id, id, fun h => ⟨h, by simp only [decide_eq_true_eq] at h; rw [wi (by omega) (by omega)]; omega⟩, id⟩
    refine k_seq ?_
    refine q_cond ?_ ?_
    · intro hb0
      try simp only [decide_eq_true_eq, decide_eq_false_iff_not, beq_iff_eq, bne_iff_ne, Bool.not_eq_true', Bool.and_eq_true] at hb0
      refine r_skip ?_
      refine k_seq ?_
      refine j_block ?_
      refine q_region hG ?_ ?_ -- R2
      · try simp only [and_true, true_and]
        rw [wi (by omega) (by omega)]; omega
      refine k_block ?_
      show ∃ z, _
      simp only [ml0, ml1, Nat.reduceLT, Nat.reduceEqDiff, Nat.reduceAdd, Nat.reduceMul, Nat.reduceSub, Nat.reduceLeDiff, Nat.reduceBEq, Nat.reduceBNe, reduceIte, reduceDIte, reduceCtorEq]
      exact whole_round g1 g2 g3 hb0.1 h4 hb0.2
    · intro hb0
      try simp only [decide_eq_true_eq, decide_eq_false_iff_not, beq_eq_false_iff_ne, bne_eq_false_iff_eq, Bool.not_eq_false', Bool.and_eq_false_imp] at hb0
      refine r_exit ?_
      refine k_seq_exit ?_
      refine k_round_exit ?_
      refine k_block_exit ?_
      refine k_seq ?_
      refine r_seq ?_
      refine q_region hG ?_ ?_ -- R3
      · try simp only [and_true, true_and]
        exact id
      refine k_seq ?_
      refine r_ret ?_
      refine ⟨[], ?_⟩
      simp only [hT, tab49, mr0, mr1, mr2, Nat.reduceLT, Nat.reduceEqDiff, Nat.reduceAdd, Nat.reduceMul, Nat.reduceSub, Nat.reduceLeDiff, Nat.reduceBEq, Nat.reduceBNe, reduceIte, reduceDIte, reduceCtorEq]
      refine whole_fin g1 g2 fun hz h0 => ?_
      have := hb0 (by simp; omega)
      rw [wi (by omega) (by omega), last_eq hz] at this
      exact this h0

def tab53 (B : Base) : Tab := { types := [(4, .bool), (61, (.slice (.int .u32))), (63, (.st (.pair .bool (.slice (.int .u32)))))], elems := [], cons := [(66, cWhole)], hint := [], N := 9, base := B }
theorem good53 {B : Base} (hB : Tabs B) : MGood Tryz.prog (tab53 B) := ⟨⟨types_cons ty4 (types_cons ty61 (types_cons ty63 (types_nil))), elems_nil, by simp only [tab53, ioB]; omega⟩, cons_ok (cals_cons (cal_ok Tryz.func66 (by kernel_rfl) rfl (valid49 hB)) (cals_nil)), by kernel_rfl⟩
def cNeg : Con := fun l os => match l, os with
  | [.z (.st (.pair .bool (.slice (.int .u32)))) x], [] => some (Lim x.2 ∧ x.2.length < CAP, [.z (.st (.pair .bool (.slice (.int .u32)))) (enc (- dec x))], [])
  | _, _ => none

theorem valid53 {B : Base} (hB : Tabs B) : Valid B Tryz.prog 79 cNeg := by
  refine valid_of_J (T := tab53 B) (good53 hB).tab Tryz.func79 rfl rfl rfl ?_
  intro args os C rs os' hc hC
  unfold cNeg at hc
  split at hc
  case h_2 => cases hc
  rename_i x
  cases hc
  refine ⟨by simp only [List.length_cons, List.length_nil, tab53]; omega, rfl, ?_⟩
  intro X hP hT hr
  have hG : MGood X.P X.T := by rw [hP, hT]; exact good53 hB
  unfold tab53 at hT
  have hX := @cWhole.eq_1
  simp only [Tryz.f79, argEnv, ioList, ioB]
  refine r_seq ?_
  refine q_region hG ?_ ?_ -- R0
  · trivial
  refine k_seq ?_
  refine r_seq ?_
  refine q_region hG ?_ ?_ -- R1
  · try simp only [and_true, true_and]
    exact hC
  refine k_seq ?_
  refine r_ret ?_
  refine ⟨[], ?_⟩
  simp only [hT, tab53, mr0, mr1, mr2, Nat.reduceLT, Nat.reduceEqDiff, Nat.reduceAdd, Nat.reduceMul, Nat.reduceSub, Nat.reduceLeDiff, Nat.reduceBEq, Nat.reduceBNe, reduceIte, reduceDIte, reduceCtorEq]
  rw [dec_not]

def tab31 (B : Base) : Tab := { types := [(3, (.int .i64)), (4, .bool), (61, (.slice (.int .u32))), (63, (.st (.pair .bool (.slice (.int .u32)))))], elems := [], cons := [], hint := [], N := 11, base := B }
theorem good31 {B : Base} (hB : Tabs B) : MGood Tryz.prog (tab31 B) := ⟨⟨types_cons ty3 (types_cons ty4 (types_cons ty61 (types_cons ty63 (types_nil)))), elems_nil, by simp only [tab31, ioB]; omega⟩, cons_nil rfl, by kernel_rfl⟩
def cSign : Con := fun l os => match l, os with
  | [.z (.st (.pair .bool (.slice (.int .u32)))) x], [] => some (WOK x, [.z (.int .i64) (cmpI (dec x) 0)], [])
  | _, _ => none

theorem valid31 {B : Base} (hB : Tabs B) : Valid B Tryz.prog 39 cSign := by
  refine valid_of_J (T := tab31 B) (good31 hB).tab Tryz.func39 rfl rfl rfl ?_
  intro args os C rs os' hc hC
  unfold cSign at hc
  split at hc
  case h_2 => cases hc
  rename_i x
  cases hc
  refine ⟨by simp only [List.length_cons, List.length_nil, tab31]; omega, rfl, ?_⟩
  intro X hP hT hr
  have hG : MGood X.P X.T := by rw [hP, hT]; exact good31 hB
  unfold tab31 at hT
  have hX := Bool.not_true
  simp only [Tryz.f39, argEnv, ioList, ioB]
  refine r_seq ?_
  refine q_region hG ?_ ?_ -- R0
  · trivial
  refine k_seq ?_
  refine r_seq ?_
  refine j_block ?_
  refine r_seq ?_
  refine q_region hG ?_ ?_ -- R1
  · trivial
  refine k_seq ?_
  refine q_cond ?_ ?_
  · intro hb0
    try simp only [decide_eq_true_eq, decide_eq_false_iff_not, beq_iff_eq, bne_iff_ne, Bool.not_eq_true', Bool.and_eq_true] at hb0
    refine r_seq ?_
    refine q_region hG ?_ ?_ -- R2
    · trivial
    refine k_seq ?_
    refine r_ret ?_
    refine k_block_ret ?_
    refine k_seq_ret ?_
    refine ⟨[], ?_⟩
    simp only [hT, tab31, mr0, mr1, mr2, Nat.reduceLT, Nat.reduceEqDiff, Nat.reduceAdd, Nat.reduceMul, Nat.reduceSub, Nat.reduceLeDiff, Nat.reduceBEq, Nat.reduceBNe, reduceIte, reduceDIte, reduceCtorEq]
    rw [cmpI, if_neg (by have := (dec_sign hC).1.1 hb0; omega), if_neg (by have := (dec_sign hC).1.1 hb0; omega)]
  · intro hb0
    try simp only [decide_eq_true_eq, decide_eq_false_iff_not, beq_eq_false_iff_ne, bne_eq_false_iff_eq, Bool.not_eq_false', Bool.and_eq_false_imp] at hb0
    refine r_seq ?_
    refine q_region hG ?_ ?_ -- R3
    · trivial
    refine k_seq ?_
    refine q_cond ?_ ?_
    · intro hb1
      try simp only [decide_eq_true_eq, decide_eq_false_iff_not, beq_iff_eq, bne_iff_ne, Bool.not_eq_true', Bool.and_eq_true] at hb1
      refine r_seq ?_
      refine q_region hG ?_ ?_ -- R4
      · trivial
      refine k_seq ?_
      refine r_ret ?_
      refine k_block_ret ?_
      refine k_seq_ret ?_
      refine ⟨[], ?_⟩
      simp only [hT, tab31, mr0, mr1, mr2, Nat.reduceLT, Nat.reduceEqDiff, Nat.reduceAdd, Nat.reduceMul, Nat.reduceSub, Nat.reduceLeDiff, Nat.reduceBEq, Nat.reduceBNe, reduceIte, reduceDIte, reduceCtorEq]
      rw [cmpI, if_pos (((dec_sign hC).2 hb0).1 hb1)]
    · intro hb1
      try simp only [decide_eq_true_eq, decide_eq_false_iff_not, beq_eq_false_iff_ne, bne_eq_false_iff_eq, Bool.not_eq_false', Bool.and_eq_false_imp] at hb1
      refine r_skip ?_
      refine k_block ?_
      refine k_seq ?_
      refine r_seq ?_
      refine q_region hG ?_ ?_ -- R5
      · trivial
      refine k_seq ?_
      refine r_ret ?_
      refine ⟨[], ?_⟩
      simp only [hT, tab31, mr0, mr1, mr2, Nat.reduceLT, Nat.reduceEqDiff, Nat.reduceAdd, Nat.reduceMul, Nat.reduceSub, Nat.reduceLeDiff, Nat.reduceBEq, Nat.reduceBNe, reduceIte, reduceDIte, reduceCtorEq]
      have := ((dec_sign hC).2 hb0).2 hb1
      rw [cmpI, if_neg (by omega), if_pos this]

def tab51 (B : Base) : Tab := { types := [(3, (.int .i64)), (61, (.slice (.int .u32))), (89, (.int .u32))], elems := [], cons := [(75, cCmpi), (92, cCmpu)], hint := [], N := 35, base := B }
theorem good51 {B : Base} (hB : Tabs B) : MGood Tryz.prog (tab51 B) := ⟨⟨types_cons ty3 (types_cons ty61 (types_cons ty89 (types_nil))), elems_nil, by simp only [tab51, ioB]; omega⟩, cons_ok (cals_cons (cal_ok Tryz.func75 (by kernel_rfl) rfl (valid58 hB)) (cals_cons (cal_ok Tryz.func92 (by kernel_rfl) rfl (valid66 hB)) (cals_nil))), by kernel_rfl⟩
def cCompare : Con := fun l os => match l, os with
  | [.z (.slice (.int .u32)) m, .z (.slice (.int .u32)) o], [] => some (Cano m ∧ Cano o ∧ m.length + o.length < CAP, [.z (.int .i64) (cmpI (valL m) (valL o))], [])
  | _, _ => none

theorem valid51 {B : Base} (hB : Tabs B) : Valid B Tryz.prog 76 cCompare := by
  refine valid_of_J (T := tab51 B) (good51 hB).tab Tryz.func76 rfl rfl rfl ?_
  intro args os C rs os' hc hC
  unfold cCompare at hc
  split at hc
  case h_2 => cases hc
  rename_i m o
  cases hc
  refine ⟨by simp only [List.length_cons, List.length_nil, tab51]; omega, rfl, ?_⟩
  intro X hP hT hr
  have hG : MGood X.P X.T := by rw [hP, hT]; exact good51 hB
  unfold tab51 at hT
  have hX := And.intro (@cCmpi.eq_1) <| @cCmpu.eq_1
  simp only [Tryz.f76, argEnv, ioList, ioB]
  refine r_seq ?_
  refine q_region hG ?_ ?_ -- R0
  · trivial
  refine k_seq ?_
  refine r_seq ?_
  refine r_seq ?_
  refine q_region hG ?_ ?_ -- R1
  · trivial
  refine k_seq ?_
  refine r_seq ?_
  refine q_region hG ?_ ?_ -- R2
  · trivial
  refine k_seq ?_
  refine q_cond ?_ ?_
  · intro hb0
    try simp only [decide_eq_true_eq, decide_eq_false_iff_not, beq_iff_eq, bne_iff_ne, Bool.not_eq_true', Bool.and_eq_true] at hb0
    refine r_seq ?_
    refine q_region hG ?_ ?_ -- R3
    · trivial
    refine k_seq ?_
    refine r_ret ?_
    refine k_seq_ret ?_
    refine ⟨[], ?_⟩
    simp only [hT, tab51, mr0, mr1, mr2, Nat.reduceLT, Nat.reduceEqDiff, Nat.reduceAdd, Nat.reduceMul, Nat.reduceSub, Nat.reduceLeDiff, Nat.reduceBEq, Nat.reduceBNe, reduceIte, reduceDIte, reduceCtorEq]
    exact cmp_lens hC.1 hC.2.1 hb0
  · intro hb0
    try simp only [decide_eq_true_eq, decide_eq_false_iff_not, bne_eq_false_iff_eq] at hb0
    obtain ⟨c1, c2, c3⟩ := hC
    have c3 : List.length m + List.length o < 1000000000000 := c3
    have hl : List.length m = List.length o := by have := cmpI_eq.1 hb0; omega
    refine r_skip ?_
    refine k_seq ?_
    refine r_seq ?_
    refine r_seq ?_
    refine q_region hG ?_ ?_ -- R4
    · trivial
    refine k_seq ?_
    refine j_block ?_
    refine j_loop (fun (z : Nat) => (⟨[(0, .l (.z (.slice (.int .u32)) m)), (1, .l (.z (.slice (.int .u32)) o)), (6, .l (.z (.int .i64) ((z : Int) - 1)))], []⟩ : AState)) (fun z => z ≤ List.length m ∧ List.drop z m = List.drop z o) (fun z => z) (List.length m) ?_ ?_ ?_
    · simp only [ml0, ml1, Nat.reduceLT, Nat.reduceEqDiff, Nat.reduceAdd, Nat.reduceMul, Nat.reduceSub, Nat.reduceLeDiff, Nat.reduceBEq, Nat.reduceBNe, reduceIte, reduceDIte, reduceCtorEq]
      exact wi (by omega) (by omega)
    · exact ⟨Nat.le_refl _, by rw [List.drop_length, List.drop_of_length_le (by omega)]⟩
    · rintro k ⟨g1, g2⟩
      try dsimp only at g1 g2
      refine r_seq ?_
      refine r_seq ?_
      refine q_region hG ?_ ?_ -- R5
      · trivial
      refine k_seq ?_
      refine q_cond ?_ ?_
      · intro hb1
        try simp only [decide_eq_true_eq, decide_eq_false_iff_not, beq_iff_eq, bne_iff_ne, Bool.not_eq_true', Bool.and_eq_true] at hb1
        refine r_skip ?_
        refine k_seq ?_
        refine r_seq ?_
        refine j_block ?_
        refine r_seq ?_
        refine q_draw hG ?_ ?_ -- R7
        · try simp only [and_true, true_and]
          omega
        refine k_seq ?_
        refine r_seq ?_
        refine q_region hG ?_ ?_ -- R8
        · trivial
        refine k_seq ?_
        refine q_cond ?_ ?_
        · intro hb2
          try simp only [decide_eq_true_eq, decide_eq_false_iff_not, beq_iff_eq, bne_iff_ne, Bool.not_eq_true', Bool.and_eq_true] at hb2
          refine r_seq ?_
          refine q_region hG ?_ ?_ -- R9
          · trivial
          refine k_seq ?_
          refine r_ret ?_
          refine k_block_ret ?_
          refine k_seq_ret ?_
          refine k_round_ret ?_
          refine k_block_ret ?_
          refine k_seq_ret ?_
          refine ⟨[], ?_⟩
          simp only [hT, tab51, mr0, mr1, mr2, Nat.reduceLT, Nat.reduceEqDiff, Nat.reduceAdd, Nat.reduceMul, Nat.reduceSub, Nat.reduceLeDiff, Nat.reduceBEq, Nat.reduceBNe, reduceIte, reduceDIte, reduceCtorEq]
          obtain ⟨j, rfl⟩ : ∃ j, k = j + 1 := ⟨k - 1, by omega⟩
          have hk : ((j + 1 : Nat) : Int) - 1 = (j : Int) := by omega
          rw [hk] at hb2 ⊢
          exact cmp_place (k := j) c1 c2 hl (by omega) g2 hb2
        · intro hb2
          try simp only [decide_eq_true_eq, decide_eq_false_iff_not, beq_eq_false_iff_ne, bne_eq_false_iff_eq, Bool.not_eq_false', Bool.and_eq_false_imp] at hb2
          refine r_skip ?_
          refine k_block ?_
          refine k_seq ?_
          refine q_region hG ?_ ?_ -- R6
          · trivial
          show ∃ z, _
          simp only [ml0, ml1, Nat.reduceLT, Nat.reduceEqDiff, Nat.reduceAdd, Nat.reduceMul, Nat.reduceSub, Nat.reduceLeDiff, Nat.reduceBEq, Nat.reduceBNe, reduceIte, reduceDIte, reduceCtorEq]
          have hk : (k : Int) - 1 = ((k - 1 : Nat) : Int) := by omega
          refine ⟨k - 1, by rw [hk, wi (by omega) (by omega)], by omega, ?_, by omega⟩
          refine drop_step (k := k - 1) hl (by omega) (by rw [show k - 1 + 1 = k by omega]; exact g2) ?_
          rw [hk] at hb2
          exact cmpI_eq.1 hb2
      · intro hb1
        try simp only [decide_eq_true_eq, decide_eq_false_iff_not, beq_eq_false_iff_ne, bne_eq_false_iff_eq, Bool.not_eq_false', Bool.and_eq_false_imp] at hb1
        refine r_exit ?_
        refine k_seq_exit ?_
        refine k_round_exit ?_
        refine k_block_exit ?_
        refine k_seq ?_
        refine r_seq ?_
        refine q_region hG ?_ ?_ -- R10
        · trivial
        refine k_seq ?_
        refine r_ret ?_
        refine ⟨[], ?_⟩
        simp only [hT, tab51, mr0, mr1, mr2, Nat.reduceLT, Nat.reduceEqDiff, Nat.reduceAdd, Nat.reduceMul, Nat.reduceSub, Nat.reduceLeDiff, Nat.reduceBEq, Nat.reduceBNe, reduceIte, reduceDIte, reduceCtorEq]
        have : k = 0 := by omega
        subst this
        simp only [List.drop_zero] at g2
        rw [g2]; simp [cmpI]

def tab52 (B : Base) : Tab := { types := [(2, (.int .i64)), (3, (.int .i64)), (61, (.slice (.int .u32))), (89, (.int .u32))], elems := [(61, 89)], cons := [], hint := [], N := 46, base := B }
theorem good52 {B : Base} (hB : Tabs B) : MGood Tryz.prog (tab52 B) := ⟨⟨types_cons ty2 (types_cons ty3 (types_cons ty61 (types_cons ty89 (types_nil)))), elems_cons (by kernel_rfl) (elems_nil), by simp only [tab52, ioB]; omega⟩, cons_nil rfl, by kernel_rfl⟩
def cMinus : Con := fun l os => match l, os with
  | [.z (.slice (.int .u32)) m, .z (.slice (.int .u32)) o], [] => some (Cano m ∧ Cano o ∧ valL o ≤ valL m ∧ m.length < CAP, [.z (.slice (.int .u32)) (padL (valL m - valL o).toNat m.length)], [])
  | _, _ => none

theorem valid52 {B : Base} (hB : Tabs B) : Valid B Tryz.prog 78 cMinus := by
  refine valid_of_J (T := tab52 B) (good52 hB).tab Tryz.func78 rfl rfl rfl ?_
  intro args os C rs os' hc hC
  unfold cMinus at hc
  split at hc
  case h_2 => cases hc
  rename_i m o
  cases hc
  refine ⟨by simp only [List.length_cons, List.length_nil, tab52]; omega, rfl, ?_⟩
  intro X hP hT hr
  have hG : MGood X.P X.T := by rw [hP, hT]; exact good52 hB
  unfold tab52 at hT
  have hX := Bool.not_true
  simp only [Tryz.f78, argEnv, ioList, ioB]
  refine r_seq ?_
  refine q_region hG ?_ ?_ -- R0
  · trivial
  refine k_seq ?_
  refine r_seq ?_
  refine q_region hG ?_ ?_ -- R1
  · try simp only [and_true, true_and]
    exact ⟨by omega, by omega, by have : List.length m < 1000000000000 := hC.2.2.2; unfold Cm.Roomy; omega⟩
  refine k_seq ?_
  refine r_seq ?_
  refine q_region hG ?_ ?_ -- R2
  · trivial
  refine k_seq ?_
  refine r_seq ?_
  refine r_seq ?_
  refine q_region hG ?_ ?_ -- R3
  · trivial
  refine k_seq ?_
  refine j_block ?_
  refine j_loop (fun (z : Nat × Int × List Int) => (⟨[(1, .l (.z (.slice (.int .u32)) o)), (5, .l (.ownS 12)), (6, .l (.z (.int .i64) z.2.1)), (13, .l (.z (.slice (.int .u32)) m)), (14, .l (.z (.int .i64) (List.length m : Int))), (15, .l (.z (.int .i64) (z.1 : Int)))], [(12, .arr (.int .u32) 89 z.2.2)]⟩ : AState)) (fun z => z.1 ≤ List.length m ∧ z.2.2.length = z.1 ∧ Lim z.2.2 ∧ 0 ≤ z.2.1 ∧ z.2.1 ≤ 1 ∧ valL z.2.2 + valL (List.take z.1 o) = valL (List.take z.1 m) + LB ^ z.1 * z.2.1) (fun z => List.length m - z.1) (0, 0, []) ?_ ?_ ?_
  · simp only [ml0, ml1, Nat.reduceLT, Nat.reduceEqDiff, Nat.reduceAdd, Nat.reduceMul, Nat.reduceSub, Nat.reduceLeDiff, Nat.reduceBEq, Nat.reduceBNe, reduceIte, reduceDIte, reduceCtorEq]
    exact ⟨rfl, rfl⟩
  · simp [Lim, valL]
  · rintro ⟨k, b, out⟩ ⟨g1, g2, g3, g4, g5, g6⟩
    try dsimp only at g1 g2 g3 g4 g5 g6
    obtain ⟨c1, c2, c3, c4⟩ := hC
    have c4 : List.length m < 1000000000000 := c4
    have hx := c1.1.getD k
    have hy := c2.1.getD k
    have hB : LB = 1000000000 := rfl
    refine r_seq ?_
    refine q_region hG ?_ ?_ -- R4
    · trivial
    refine k_seq ?_
    refine r_seq ?_
    refine q_cond ?_ ?_
    · intro hb0
      try simp only [decide_eq_true_eq, decide_eq_false_iff_not, beq_iff_eq, bne_iff_ne, Bool.not_eq_true', Bool.and_eq_true] at hb0
      refine r_skip ?_
      refine k_seq ?_
      refine r_seq ?_
      refine j_block ?_
      refine r_seq ?_
      refine q_region hG ?_ ?_ -- R5
      · try simp only [and_true, true_and]
        exact ⟨by omega, by omega⟩
      refine k_seq ?_
      refine r_seq ?_
      refine q_region hG ?_ ?_ -- R6
      · trivial
      refine k_seq ?_
      refine r_cut (fun (z : Int) => (⟨[(1, .l (.z (.slice (.int .u32)) o)), (5, .l (.ownS 12)), (9, .l (.z (.int .i64) z)), (13, .l (.z (.slice (.int .u32)) m)), (14, .l (.z (.int .i64) (List.length m : Int))), (15, .l (.z (.int .i64) (k : Int)))], [(12, .arr (.int .u32) 89 out)]⟩ : AState)) (fun z => z = List.getD m k 0 - b - List.getD o k 0) ?_ ?_
      · refine r_seq ?_
        refine q_region hG ?_ ?_ -- R7
        · trivial
        refine k_seq ?_
        refine q_cond ?_ ?_
        · intro hb1
          try simp only [decide_eq_true_eq, decide_eq_false_iff_not, beq_iff_eq, bne_iff_ne, Bool.not_eq_true', Bool.and_eq_true] at hb1
          refine q_region hG ?_ ?_ -- R8
          · try simp only [and_true, true_and]
            exact ⟨by omega, by omega⟩
          show ∃ z, _
          simp only [ml0, ml1, Nat.reduceLT, Nat.reduceEqDiff, Nat.reduceAdd, Nat.reduceMul, Nat.reduceSub, Nat.reduceLeDiff, Nat.reduceBEq, Nat.reduceBNe, reduceIte, reduceDIte, reduceCtorEq]
          rw [nth32, wi (x := List.getD m k 0) (by omega) (by omega), wi (x := List.getD m k 0 - b) (by omega) (by omega)]
          first | (rw [nth32, wi (x := List.getD o k 0) (by omega) (by omega)]; exact wi (by omega) (by omega)) | (rw [List.getD_eq_getElem?_getD (l := o), List.getElem?_eq_none (by omega)]; simp)
        · intro hb1
          try simp only [decide_eq_true_eq, decide_eq_false_iff_not, beq_eq_false_iff_ne, bne_eq_false_iff_eq, Bool.not_eq_false', Bool.and_eq_false_imp] at hb1
          refine r_skip ?_
          show ∃ z, _
          simp only [ml0, ml1, Nat.reduceLT, Nat.reduceEqDiff, Nat.reduceAdd, Nat.reduceMul, Nat.reduceSub, Nat.reduceLeDiff, Nat.reduceBEq, Nat.reduceBNe, reduceIte, reduceDIte, reduceCtorEq]
          rw [nth32, wi (x := List.getD m k 0) (by omega) (by omega), wi (x := List.getD m k 0 - b) (by omega) (by omega)]
          first | (rw [nth32, wi (x := List.getD o k 0) (by omega) (by omega)]; exact wi (by omega) (by omega)) | (rw [List.getD_eq_getElem?_getD (l := o), List.getElem?_eq_none (by omega)]; simp)
      rintro n hn
      try dsimp only at hn
      refine r_seq ?_
      refine q_region hG ?_ ?_ -- R9
      · trivial
      refine k_seq ?_
      refine r_cut (fun (z : Int × Int) => (⟨[(1, .l (.z (.slice (.int .u32)) o)), (5, .l (.ownS 12)), (6, .l (.z (.int .i64) z.2)), (9, .l (.z (.int .i64) z.1)), (13, .l (.z (.slice (.int .u32)) m)), (14, .l (.z (.int .i64) (List.length m : Int))), (15, .l (.z (.int .i64) (k : Int)))], [(12, .arr (.int .u32) 89 out)]⟩ : AState)) (fun z => 0 ≤ z.1 ∧ z.1 < LB ∧ 0 ≤ z.2 ∧ z.2 ≤ 1 ∧ z.1 - LB * z.2 = n) ?_ ?_
      · refine r_seq ?_
        refine q_region hG ?_ ?_ -- R10
        · trivial
        refine k_seq ?_
        refine q_cond ?_ ?_
        · intro hb2
          try simp only [decide_eq_true_eq, decide_eq_false_iff_not, beq_iff_eq, bne_iff_ne, Bool.not_eq_true', Bool.and_eq_true] at hb2
          refine q_region hG ?_ ?_ -- R11
          · trivial
          show ∃ z, _
          simp only [ml0, ml1, Nat.reduceLT, Nat.reduceEqDiff, Nat.reduceAdd, Nat.reduceMul, Nat.reduceSub, Nat.reduceLeDiff, Nat.reduceBEq, Nat.reduceBNe, reduceIte, reduceDIte, reduceCtorEq]
          first | (rw [wi (by omega) (by omega)]; exact ⟨by omega, by omega, by omega, by omega, by omega⟩) | exact ⟨by omega, by omega, by omega, by omega, by omega⟩
        · intro hb2
          try simp only [decide_eq_true_eq, decide_eq_false_iff_not, beq_eq_false_iff_ne, bne_eq_false_iff_eq, Bool.not_eq_false', Bool.and_eq_false_imp] at hb2
          refine r_skip ?_
          show ∃ z, _
          simp only [ml0, ml1, Nat.reduceLT, Nat.reduceEqDiff, Nat.reduceAdd, Nat.reduceMul, Nat.reduceSub, Nat.reduceLeDiff, Nat.reduceBEq, Nat.reduceBNe, reduceIte, reduceDIte, reduceCtorEq]
          first | (rw [wi (by omega) (by omega)]; exact ⟨by omega, by omega, by omega, by omega, by omega⟩) | exact ⟨by omega, by omega, by omega, by omega, by omega⟩
      rintro ⟨n2, b2⟩ hn2
      try dsimp only at hn2
      refine q_region hG ?_ ?_ -- R12
      · try simp only [and_true, true_and]
        unfold Cm.Roomy; omega
      refine k_block ?_
      refine k_seq ?_
      refine q_region hG ?_ ?_ -- R13
      · trivial
      show ∃ z, _
      simp only [ml0, ml1, Nat.reduceLT, Nat.reduceEqDiff, Nat.reduceAdd, Nat.reduceMul, Nat.reduceSub, Nat.reduceLeDiff, Nat.reduceBEq, Nat.reduceBNe, reduceIte, reduceDIte, reduceCtorEq]
      obtain ⟨hn1, hn2, hn3, hn4, hn5⟩ := hn2
      rw [w32 hn1 (by omega)]
      obtain ⟨q1, q2⟩ := minus_round (b := b) g2 g3 g6 hn1 hn2 (b' := b2) (by omega)
      exact ⟨k + 1, by rw [wi (by omega) (by omega)]; simp, by omega, by simp [g2], q1, hn3, hn4, q2, by omega⟩
    · intro hb0
      try simp only [decide_eq_true_eq, decide_eq_false_iff_not, beq_eq_false_iff_ne, bne_eq_false_iff_eq, Bool.not_eq_false', Bool.and_eq_false_imp] at hb0
      refine r_exit ?_
      refine k_seq_exit ?_
      refine k_round_exit ?_
      refine k_block_exit ?_
      refine k_seq ?_
      refine r_seq ?_
      refine q_region hG ?_ ?_ -- R14
      · trivial
      refine k_seq ?_
      refine r_ret ?_
      refine ⟨[], ?_⟩
      simp only [hT, tab52, mr0, mr1, mr2, Nat.reduceLT, Nat.reduceEqDiff, Nat.reduceAdd, Nat.reduceMul, Nat.reduceSub, Nat.reduceLeDiff, Nat.reduceBEq, Nat.reduceBNe, reduceIte, reduceDIte, reduceCtorEq]
      have hk : k = List.length m := by omega
      subst hk
      exact minus_end c1 c2 c3 g2 g3 g4 (by rw [List.take_length] at g6; exact g6)

def tab26 (B : Base) : Tab := { types := [(3, (.int .i64)), (4, .bool), (61, (.slice (.int .u32))), (63, (.st (.pair .bool (.slice (.int .u32)))))], elems := [], cons := [(66, cWhole), (76, cCompare), (77, cPlus), (78, cMinus)], hint := [], N := 42, base := B }
theorem good26 {B : Base} (hB : Tabs B) : MGood Tryz.prog (tab26 B) := ⟨⟨types_cons ty3 (types_cons ty4 (types_cons ty61 (types_cons ty63 (types_nil)))), elems_nil, by simp only [tab26, ioB]; omega⟩, cons_ok (cals_cons (cal_ok Tryz.func66 (by kernel_rfl) rfl (valid49 hB)) (cals_cons (cal_ok Tryz.func76 (by kernel_rfl) rfl (valid51 hB)) (cals_cons (cal_ok Tryz.func77 (by kernel_rfl) rfl (valid50 hB)) (cals_cons (cal_ok Tryz.func78 (by kernel_rfl) rfl (valid52 hB)) (cals_nil))))), by kernel_rfl⟩
def cAdd : Con := fun l os => match l, os with
  | [.z (.st (.pair .bool (.slice (.int .u32)))) x, .z (.st (.pair .bool (.slice (.int .u32)))) y], [] => some (WOK x ∧ WOK y ∧ x.2.length + y.2.length < CAP, [.z (.st (.pair .bool (.slice (.int .u32)))) (enc (dec x + dec y))], [])
  | _, _ => none

theorem valid26 {B : Base} (hB : Tabs B) : Valid B Tryz.prog 55 cAdd := by
  refine valid_of_J (T := tab26 B) (good26 hB).tab Tryz.func55 rfl rfl rfl ?_
  intro args os C rs os' hc hC
  unfold cAdd at hc
  split at hc
  case h_2 => cases hc
  rename_i x y
  cases hc
  refine ⟨by simp only [List.length_cons, List.length_nil, tab26]; omega, rfl, ?_⟩
  intro X hP hT hr
  have hG : MGood X.P X.T := by rw [hP, hT]; exact good26 hB
  unfold tab26 at hT
  have hX := And.intro (@cWhole.eq_1) <| And.intro (@cPlus.eq_1) <| And.intro (@cCompare.eq_1) <| @cMinus.eq_1
  simp only [Tryz.f55, argEnv, ioList, ioB]
  refine r_seq ?_
  refine q_region hG ?_ ?_ -- R0
  · trivial
  refine k_seq ?_
  refine r_seq ?_
  refine j_block ?_
  refine r_seq ?_
  refine q_region hG ?_ ?_ -- R1
  · trivial
  refine k_seq ?_
  refine q_cond ?_ ?_
  · intro hb0
    try simp only [decide_eq_true_eq, decide_eq_false_iff_not, beq_iff_eq, bne_iff_ne, Bool.not_eq_true', Bool.and_eq_true] at hb0
    refine r_seq ?_
    refine q_draw hG ?_ ?_ -- R2
    · try simp only [and_true, true_and]
      obtain ⟨c1, c2, c3⟩ := hC
      exact ⟨⟨c1.1, c2.1, c3⟩, (limbs_can _).1, Nat.lt_of_le_of_lt (plus_len c1.1 c2.1) c3⟩
    refine k_seq ?_
    refine r_ret ?_
    refine k_block_ret ?_
    refine k_seq_ret ?_
    refine ⟨[], ?_⟩
    simp only [hT, tab26, mr0, mr1, mr2, Nat.reduceLT, Nat.reduceEqDiff, Nat.reduceAdd, Nat.reduceMul, Nat.reduceSub, Nat.reduceLeDiff, Nat.reduceBEq, Nat.reduceBNe, reduceIte, reduceDIte, reduceCtorEq]
    exact add_same hC.1 hC.2.1 hb0
  · intro hb0
    try simp only [decide_eq_true_eq, decide_eq_false_iff_not, beq_eq_false_iff_ne, bne_eq_false_iff_eq, Bool.not_eq_false', Bool.and_eq_false_imp] at hb0
    refine r_seq ?_
    refine q_region hG ?_ ?_ -- R3
    · try simp only [and_true, true_and]
      obtain ⟨c1, c2, c3⟩ := hC
      exact ⟨c1.1, c2.1, c3⟩
    refine k_seq ?_
    refine q_cond ?_ ?_
    · intro hb1
      try simp only [decide_eq_true_eq, decide_eq_false_iff_not, beq_iff_eq, bne_iff_ne, Bool.not_eq_true', Bool.and_eq_true] at hb1
      refine r_seq ?_
      refine q_draw hG ?_ ?_ -- R4
      · try simp only [and_true, true_and]
        obtain ⟨c1, c2, c3⟩ := hC
        rw [cmpI_neg] at hb1
        exact ⟨⟨c2.1, c1.1, by omega, by omega⟩, padL_lim _ _, by rw [padL_len]; omega⟩
      refine k_seq ?_
      refine r_ret ?_
      refine k_block_ret ?_
      refine k_seq_ret ?_
      refine ⟨[], ?_⟩
      simp only [hT, tab26, mr0, mr1, mr2, Nat.reduceLT, Nat.reduceEqDiff, Nat.reduceAdd, Nat.reduceMul, Nat.reduceSub, Nat.reduceLeDiff, Nat.reduceBEq, Nat.reduceBNe, reduceIte, reduceDIte, reduceCtorEq]
      rw [cmpI_neg] at hb1
      rw [add_less (fun e => hb0 e.symm) (minus_val hC.2.1.1 hC.1.1 (by omega)), Int.add_comm]
    · intro hb1
      try simp only [decide_eq_true_eq, decide_eq_false_iff_not, beq_eq_false_iff_ne, bne_eq_false_iff_eq, Bool.not_eq_false', Bool.and_eq_false_imp] at hb1
      refine r_skip ?_
      refine k_block ?_
      refine k_seq ?_
      refine r_seq ?_
      refine q_draw hG ?_ ?_ -- R5
      · try simp only [and_true, true_and]
        obtain ⟨c1, c2, c3⟩ := hC
        rw [cmpI_neg] at hb1
        exact ⟨⟨c1.1, c2.1, by omega, by omega⟩, padL_lim _ _, by rw [padL_len]; omega⟩
      refine k_seq ?_
      refine r_ret ?_
      refine ⟨[], ?_⟩
      simp only [hT, tab26, mr0, mr1, mr2, Nat.reduceLT, Nat.reduceEqDiff, Nat.reduceAdd, Nat.reduceMul, Nat.reduceSub, Nat.reduceLeDiff, Nat.reduceBEq, Nat.reduceBNe, reduceIte, reduceDIte, reduceCtorEq]
      rw [cmpI_neg] at hb1
      exact add_less hb0 (minus_val hC.1.1 hC.2.1.1 (by omega))

def tab29 (B : Base) : Tab := { types := [(63, (.st (.pair .bool (.slice (.int .u32)))))], elems := [], cons := [(55, cAdd), (79, cNeg)], hint := [], N := 9, base := B }
theorem good29 {B : Base} (hB : Tabs B) : MGood Tryz.prog (tab29 B) := ⟨⟨types_cons ty63 (types_nil), elems_nil, by simp only [tab29, ioB]; omega⟩, cons_ok (cals_cons (cal_ok Tryz.func55 (by kernel_rfl) rfl (valid26 hB)) (cals_cons (cal_ok Tryz.func79 (by kernel_rfl) rfl (valid53 hB)) (cals_nil))), by kernel_rfl⟩
def cSub : Con := fun l os => match l, os with
  | [.z (.st (.pair .bool (.slice (.int .u32)))) x, .z (.st (.pair .bool (.slice (.int .u32)))) y], [] => some (WOK x ∧ WOK y ∧ x.2.length + y.2.length < CAP, [.z (.st (.pair .bool (.slice (.int .u32)))) (enc (dec x - dec y))], [])
  | _, _ => none

theorem valid29 {B : Base} (hB : Tabs B) : Valid B Tryz.prog 56 cSub := by
  refine valid_of_J (T := tab29 B) (good29 hB).tab Tryz.func56 rfl rfl rfl ?_
  intro args os C rs os' hc hC
  unfold cSub at hc
  split at hc
  case h_2 => cases hc
  rename_i x y
  cases hc
  refine ⟨by simp only [List.length_cons, List.length_nil, tab29]; omega, rfl, ?_⟩
  intro X hP hT hr
  have hG : MGood X.P X.T := by rw [hP, hT]; exact good29 hB
  unfold tab29 at hT
  have hX := And.intro (@cNeg.eq_1) <| @cAdd.eq_1
  simp only [Tryz.f56, argEnv, ioList, ioB]
  refine r_seq ?_
  refine q_region hG ?_ ?_ -- R0
  · trivial
  refine k_seq ?_
  refine r_seq ?_
  refine q_draw hG ?_ ?_ -- R1
  · try simp only [and_true, true_and]
    obtain ⟨c1, c2, c3⟩ := hC
    exact ⟨⟨c2.1.1, by omega⟩, c1, enc_ok _, by rw [neg_len c2]; exact c3⟩
  refine k_seq ?_
  refine r_ret ?_
  refine ⟨[], ?_⟩
  simp only [hT, tab29, mr0, mr1, mr2, Nat.reduceLT, Nat.reduceEqDiff, Nat.reduceAdd, Nat.reduceMul, Nat.reduceSub, Nat.reduceLeDiff, Nat.reduceBEq, Nat.reduceBNe, reduceIte, reduceDIte, reduceCtorEq]
  rw [dec_enc]; rfl

def tab27 (B : Base) : Tab := { types := [(3, (.int .i64)), (4, .bool), (61, (.slice (.int .u32))), (63, (.st (.pair .bool (.slice (.int .u32))))), (89, (.int .u32)), (91, (.int .u64))], elems := [(61, 89)], cons := [(66, cWhole)], hint := [], N := 79, base := B }
theorem good27 {B : Base} (hB : Tabs B) : MGood Tryz.prog (tab27 B) := ⟨⟨types_cons ty3 (types_cons ty4 (types_cons ty61 (types_cons ty63 (types_cons ty89 (types_cons ty91 (types_nil)))))), elems_cons (by kernel_rfl) (elems_nil), by simp only [tab27, ioB]; omega⟩, cons_ok (cals_cons (cal_ok Tryz.func66 (by kernel_rfl) rfl (valid49 hB)) (cals_nil)), by kernel_rfl⟩
def cMul : Con := fun l os => match l, os with
  | [.z (.st (.pair .bool (.slice (.int .u32)))) x, .z (.st (.pair .bool (.slice (.int .u32)))) y], [] => some (WOK x ∧ WOK y ∧ x.2.length + y.2.length < CAP, [.z (.st (.pair .bool (.slice (.int .u32)))) (enc (dec x * dec y))], [])
  | _, _ => none

theorem valid27 {B : Base} (hB : Tabs B) : Valid B Tryz.prog 38 cMul := by
  refine valid_of_J (T := tab27 B) (good27 hB).tab Tryz.func38 rfl rfl rfl ?_
  intro args os C rs os' hc hC
  unfold cMul at hc
  split at hc
  case h_2 => cases hc
  rename_i x y
  cases hc
  refine ⟨by simp only [List.length_cons, List.length_nil, tab27]; omega, rfl, ?_⟩
  intro X hP hT hr
  have hG : MGood X.P X.T := by rw [hP, hT]; exact good27 hB
  unfold tab27 at hT
  have hX := @cWhole.eq_1
  simp only [Tryz.f38, argEnv, ioList, ioB]
  refine r_seq ?_
  refine q_region hG ?_ ?_ -- R0
  · trivial
  refine k_seq ?_
  refine r_seq ?_
  refine q_region hG ?_ ?_ -- R1
  · try simp only [and_true, true_and]
    have c3 : List.length x.2 + List.length y.2 < 1000000000000 := hC.2.2
    rw [wi (by omega) (by omega)]
    exact ⟨by omega, by omega, by unfold Cm.Roomy; omega⟩
  refine k_seq ?_
  refine r_seq ?_
  refine r_seq ?_
  refine q_region hG ?_ ?_ -- R2
  · trivial
  refine k_seq ?_
  refine j_block ?_
  refine j_loop (fun (z : Nat × List Int) => (⟨[(2, .l (.z (.ptr (.st (.pair .bool (.slice (.int .u32))))) x)), (3, .l (.z (.ptr (.st (.pair .bool (.slice (.int .u32))))) y)), (4, .l (.ownP 4 0)), (5, .l (.ownS 19)), (21, .l (.z (.slice (.int .u32)) x.2)), (22, .l (.z (.int .i64) (List.length x.2 : Int))), (23, .l (.z (.int .i64) (z.1 : Int)))], [(19, .arr (.int .u32) 89 z.2), (4, .box 63 [.z .bool false, .val (.slice none 0 0)])]⟩ : AState)) (fun z => z.1 ≤ List.length x.2 ∧ z.2.length = List.length x.2 + List.length y.2 ∧ Lim z.2 ∧ valL z.2 = valL (List.take z.1 x.2) * valL y.2 ∧ ∀ j, z.1 + List.length y.2 ≤ j → z.2.getD j 0 = 0) (fun z => List.length x.2 - z.1) (0, List.replicate (List.length x.2 + List.length y.2) 0) ?_ ?_ ?_
  · simp only [ml0, ml1, Nat.reduceLT, Nat.reduceEqDiff, Nat.reduceAdd, Nat.reduceMul, Nat.reduceSub, Nat.reduceLeDiff, Nat.reduceBEq, Nat.reduceBNe, reduceIte, reduceDIte, reduceCtorEq]
    have c3 : List.length x.2 + List.length y.2 < 1000000000000 := hC.2.2
    rw [wi (by omega) (by omega)]
    exact ⟨rfl, by congr 1⟩
  · obtain ⟨r1, r2, r3⟩ := replicate_zero (List.length x.2 + List.length y.2)
    exact ⟨by simp, by simp, r1, by simp [r2, valL], fun j _ => r3 j⟩
  · rintro ⟨i, out⟩ ⟨g1, g2, g3, g4, g5⟩
    try dsimp only at g1 g2 g3 g4 g5
    obtain ⟨c1, c2, c3⟩ := hC
    have c3 : List.length x.2 + List.length y.2 < 1000000000000 := c3
    have hB : LB = 1000000000 := rfl
    refine r_seq ?_
    refine q_region hG ?_ ?_ -- R3
    · trivial
    refine k_seq ?_
    refine r_seq ?_
    refine q_cond ?_ ?_
    · intro hb0
      try simp only [decide_eq_true_eq, decide_eq_false_iff_not, beq_iff_eq, bne_iff_ne, Bool.not_eq_true', Bool.and_eq_true] at hb0
      refine r_skip ?_
      refine k_seq ?_
      refine r_seq ?_
      refine j_block ?_
      refine r_seq ?_
      refine q_region hG ?_ ?_ -- R4
      · try simp only [and_true, true_and]
        omega
      refine k_seq ?_
      refine r_seq ?_
      refine q_region hG ?_ ?_ -- R5
      · trivial
      refine k_seq ?_
      refine r_seq ?_
      refine r_seq ?_
      refine q_region hG ?_ ?_ -- R6
      · trivial
      refine k_seq ?_
      refine j_block ?_
      refine j_loop (fun (z : Nat × Int × List Int) => (⟨[(2, .l (.z (.ptr (.st (.pair .bool (.slice (.int .u32))))) x)), (3, .l (.z (.ptr (.st (.pair .bool (.slice (.int .u32))))) y)), (4, .l (.ownP 4 0)), (5, .l (.ownS 19)), (6, .l (.z (.int .i64) (i : Int))), (7, .l (.z (.int .u32) (List.getD x.2 i 0))), (8, .l (.z (.int .u64) z.2.1)), (21, .l (.z (.slice (.int .u32)) x.2)), (22, .l (.z (.int .i64) (List.length x.2 : Int))), (23, .l (.z (.int .i64) (i : Int))), (29, .l (.z (.slice (.int .u32)) y.2)), (30, .l (.z (.int .i64) (List.length y.2 : Int))), (31, .l (.z (.int .i64) (z.1 : Int)))], [(19, .arr (.int .u32) 89 z.2.2), (4, .box 63 [.z .bool false, .val (.slice none 0 0)])]⟩ : AState)) (fun z => z.1 ≤ List.length y.2 ∧ z.2.2.length = List.length x.2 + List.length y.2 ∧ Lim z.2.2 ∧ 0 ≤ z.2.1 ∧ z.2.1 < LB ∧ valL z.2.2 + LB ^ (i + z.1) * z.2.1 = valL (List.take i x.2) * valL y.2 + LB ^ i * (List.getD x.2 i 0 * valL (List.take z.1 y.2)) ∧ ∀ j, i + List.length y.2 ≤ j → z.2.2.getD j 0 = 0) (fun z => List.length y.2 - z.1) (0, 0, out) ?_ ?_ ?_
      · simp only [ml0, ml1, Nat.reduceLT, Nat.reduceEqDiff, Nat.reduceAdd, Nat.reduceMul, Nat.reduceSub, Nat.reduceLeDiff, Nat.reduceBEq, Nat.reduceBNe, reduceIte, reduceDIte, reduceCtorEq]
        exact ⟨rfl, rfl⟩
      · exact ⟨by simp, g2, g3, by simp, by simp; decide, by simp [valL, g4], g5⟩
      · rintro ⟨k, c, out2⟩ ⟨k1, k2, k3, k4, k5, k6, k7⟩
        try dsimp only at k1 k2 k3 k4 k5 k6 k7
        have e1 : IntKind.i64.wrap ((i : Int) + (k : Int)) = ((i + k : Nat) : Int) := by rw [wi (by omega) (by omega)]; omega
        refine r_seq ?_
        refine q_region hG ?_ ?_ -- R7
        · trivial
        refine k_seq ?_
        refine r_seq ?_
        refine q_cond ?_ ?_
        · intro hb1
          try simp only [decide_eq_true_eq, decide_eq_false_iff_not, beq_iff_eq, bne_iff_ne, Bool.not_eq_true', Bool.and_eq_true] at hb1
          refine r_skip ?_
          refine k_seq ?_
          refine r_seq ?_
          refine j_block ?_
          refine r_seq ?_
          refine q_region hG ?_ ?_ -- R8
          · try simp only [and_true, true_and]
            omega
          refine k_seq ?_
          refine r_cut (fun (z : Int) => (⟨[(2, .l (.z (.ptr (.st (.pair .bool (.slice (.int .u32))))) x)), (3, .l (.z (.ptr (.st (.pair .bool (.slice (.int .u32))))) y)), (4, .l (.ownP 4 0)), (5, .l (.ownS 19)), (6, .l (.z (.int .i64) (i : Int))), (7, .l (.z (.int .u32) (List.getD x.2 i 0))), (9, .l (.z (.int .i64) (k : Int))), (11, .l (.z (.int .u64) z)), (21, .l (.z (.slice (.int .u32)) x.2)), (22, .l (.z (.int .i64) (List.length x.2 : Int))), (23, .l (.z (.int .i64) (i : Int))), (29, .l (.z (.slice (.int .u32)) y.2)), (30, .l (.z (.int .i64) (List.length y.2 : Int))), (31, .l (.z (.int .i64) (k : Int)))], [(19, .arr (.int .u32) 89 out2), (4, .box 63 [.z .bool false, .val (.slice none 0 0)])]⟩ : AState)) (fun z => z = List.getD x.2 i 0 * List.getD y.2 k 0 + out2.getD (i + k) 0 + c) ?_ ?_
          · refine q_region hG ?_ ?_ -- R9
            · try simp only [and_true, true_and]
              rw [e1]; omega
            show ∃ z, _
            simp only [ml0, ml1, Nat.reduceLT, Nat.reduceEqDiff, Nat.reduceAdd, Nat.reduceMul, Nat.reduceSub, Nat.reduceLeDiff, Nat.reduceBEq, Nat.reduceBNe, reduceIte, reduceDIte, reduceCtorEq]
            rw [e1]
            exact mul_n (c1.1.1.getD i) (c2.1.1.getD k) (k3.getD (i + k)) ⟨k4, k5⟩
          rintro n hn
          try dsimp only at hn
          refine q_region hG ?_ ?_ -- R10
          · try simp only [and_true, true_and]
            rw [e1]; omega
          refine k_block ?_
          refine k_seq ?_
          refine q_region hG ?_ ?_ -- R11
          · trivial
          show ∃ z, _
          simp only [ml0, ml1, Nat.reduceLT, Nat.reduceEqDiff, Nat.reduceAdd, Nat.reduceMul, Nat.reduceSub, Nat.reduceLeDiff, Nat.reduceBEq, Nat.reduceBNe, reduceIte, reduceDIte, reduceCtorEq]
          obtain ⟨m0, m1, m2, m3, m4, m5, m6, m7⟩ := mul_step c1.1.1 c2.1.1 k2 k3 k4 k5 (by omega) (by omega) k6 k7 hn
          obtain ⟨t1, t2, t3⟩ := two_limbs m0 m1
          rw [e1, t2, t3, Int.toNat_natCast]
          exact ⟨k + 1, by rw [wi (by omega) (by omega)]; simp, by omega, m2, m3, m4, m5, m6, m7, by omega⟩
        · intro hb1
          try simp only [decide_eq_true_eq, decide_eq_false_iff_not, beq_eq_false_iff_ne, bne_eq_false_iff_eq, Bool.not_eq_false', Bool.and_eq_false_imp] at hb1
          refine r_exit ?_
          refine k_seq_exit ?_
          refine k_round_exit ?_
          refine k_block_exit ?_
          refine k_seq ?_
          refine q_region hG ?_ ?_ -- R12
          · try simp only [and_true, true_and]
            rw [wi (by omega) (by omega)]; omega
          refine k_block ?_
          refine k_seq ?_
          refine q_region hG ?_ ?_ -- R13
          · trivial
          show ∃ z, _
          simp only [ml0, ml1, Nat.reduceLT, Nat.reduceEqDiff, Nat.reduceAdd, Nat.reduceMul, Nat.reduceSub, Nat.reduceLeDiff, Nat.reduceBEq, Nat.reduceBNe, reduceIte, reduceDIte, reduceCtorEq]
          have e1 : IntKind.i64.wrap ((i : Int) + (List.length y.2 : Int)) = ((i + List.length y.2 : Nat) : Int) := by rw [wi (by omega) (by omega)]; omega
          have hk : k = List.length y.2 := by omega
          subst hk
          rw [List.take_length] at k6
          obtain ⟨f1, f2, f3, f4⟩ := mul_row k2 k3 k4 k5 (by omega) rfl k6 k7
          rw [e1, w32 k4 (by omega), Int.toNat_natCast]
          exact ⟨i + 1, by rw [wi (by omega) (by omega)]; simp, by omega, f1, f2, f3, f4, by omega⟩
    · intro hb0
      try simp only [decide_eq_true_eq, decide_eq_false_iff_not, beq_eq_false_iff_ne, bne_eq_false_iff_eq, Bool.not_eq_false', Bool.and_eq_false_imp] at hb0
      refine r_exit ?_
      refine k_seq_exit ?_
      refine k_round_exit ?_
      refine k_block_exit ?_
      refine k_seq ?_
      refine r_seq ?_
      refine q_region hG ?_ ?_ -- R14
      · try simp only [and_true, true_and]
        exact ⟨g3, by unfold CAP; omega⟩
      refine k_seq ?_
      refine r_ret ?_
      refine ⟨[], ?_⟩
      simp only [hT, tab27, mr0, mr1, mr2, Nat.reduceLT, Nat.reduceEqDiff, Nat.reduceAdd, Nat.reduceMul, Nat.reduceSub, Nat.reduceLeDiff, Nat.reduceBEq, Nat.reduceBNe, reduceIte, reduceDIte, reduceCtorEq]
      have hi : i = List.length x.2 := by omega
      subst hi
      rw [List.take_length] at g4
      rw [← mul_fin g4]

end Go.Proofs.YtkgbdpmhdplddaaGreatDoor
end

section
/- The functions of the package exact, one after the other: each meets its contract. -/
set_option linter.unusedSimpArgs false
set_option linter.unusedVariables false
set_option maxRecDepth 100000
namespace Go.Proofs.YtkgbdpmhdplddaaGreatDoor
open Go Go.Cm Go.Proofs

def tab60 (B : Base) : Tab := { types := [(3, (.int .i64)), (9, .str)], elems := [], cons := [], hint := [], N := 18, base := B }
theorem good60 {B : Base} (hB : Tabs B) : MGood Tryz.prog (tab60 B) := ⟨⟨types_cons ty3 (types_cons ty9 (types_nil)), elems_nil, by simp only [tab60, ioB]; omega⟩, cons_nil rfl, by kernel_rfl⟩
def cHasPre : Con := fun l os => match l, os with
  | [.z .str s, .z .str p], [] => some (True, [.z .bool (hasPre s p)], [])
  | _, _ => none

theorem valid60 {B : Base} (hB : Tabs B) : Valid B Tryz.prog 80 cHasPre := by
  refine valid_of_J (T := tab60 B) (good60 hB).tab Tryz.func80 rfl rfl rfl ?_
  intro args os C rs os' hc hC
  unfold cHasPre at hc
  split at hc
  case h_2 => cases hc
  rename_i s p
  cases hc
  refine ⟨by simp only [List.length_cons, List.length_nil, tab60]; omega, rfl, ?_⟩
  intro X hP hT hr
  have hG : MGood X.P X.T := by rw [hP, hT]; exact good60 hB
  unfold tab60 at hT
  have hX := Bool.not_true
  simp only [Tryz.f80, argEnv, ioList, ioB]
  refine r_seq ?_
  refine q_region hG ?_ ?_ -- R0
  · trivial
  refine k_seq ?_
  refine r_seq ?_
  refine q_region hG ?_ ?_ -- R1
  · try simp only [and_true, true_and]
    (repeat' (first | apply And.intro | intro _)) <;> (try simp only [decide_eq_true_eq, decide_eq_false_iff_not, Bool.not_eq_true', beq_iff_eq, Int.toNat_natCast] at *) <;> first | assumption | omega | trivial | (simp_all; done) | (simp_all; omega)
  refine k_seq ?_
  refine r_ret ?_
  refine ⟨[], ?_⟩
  simp only [hT, tab60, mr0, mr1, mr2, Nat.reduceLT, Nat.reduceEqDiff, Nat.reduceAdd, Nat.reduceMul, Nat.reduceSub, Nat.reduceLeDiff, Nat.reduceBEq, Nat.reduceBNe, reduceIte, reduceDIte, reduceCtorEq]
  exact hasPre_eq s p

def tab36 (B : Base) : Tab := { types := [(9, .str)], elems := [], cons := [(80, cHasPre)], hint := [], N := 13, base := B }
theorem good36 {B : Base} (hB : Tabs B) : MGood Tryz.prog (tab36 B) := ⟨⟨types_cons ty9 (types_nil), elems_nil, by simp only [tab36, ioB]; omega⟩, cons_ok (cals_cons (cal_ok Tryz.func80 (by kernel_rfl) rfl (valid60 hB)) (cals_nil)), by kernel_rfl⟩
def cTrimPre : Con := fun l os => match l, os with
  | [.z .str s, .z .str p], [] => some (True, [.z .str (trimPre s p)], [])
  | _, _ => none

theorem valid36 {B : Base} (hB : Tabs B) : Valid B Tryz.prog 58 cTrimPre := by
  refine valid_of_J (T := tab36 B) (good36 hB).tab Tryz.func58 rfl rfl rfl ?_
  intro args os C rs os' hc hC
  unfold cTrimPre at hc
  split at hc
  case h_2 => cases hc
  rename_i s p
  cases hc
  refine ⟨by simp only [List.length_cons, List.length_nil, tab36]; omega, rfl, ?_⟩
  intro X hP hT hr
  have hG : MGood X.P X.T := by rw [hP, hT]; exact good36 hB
  unfold tab36 at hT
  have hX := @cHasPre.eq_1
  simp only [Tryz.f58, argEnv, ioList, ioB]
  refine r_seq ?_
  refine q_region hG ?_ ?_ -- R0
  · trivial
  refine k_seq ?_
  refine r_seq ?_
  refine r_seq ?_
  refine q_region hG ?_ ?_ -- R1
  · trivial
  refine k_seq ?_
  refine q_cond ?_ ?_
  · intro hb0
    try simp only [decide_eq_true_eq, decide_eq_false_iff_not, beq_iff_eq, bne_iff_ne, Bool.not_eq_true', Bool.and_eq_true] at hb0
    refine r_seq ?_
    refine q_region hG ?_ ?_ -- R2
    · try simp only [and_true, true_and]
      have h := hb0
      unfold hasPre at h
      simp only [Bool.and_eq_true, decide_eq_true_eq] at h
      exact ⟨by omega, by omega, by omega⟩
    refine k_seq ?_
    refine r_ret ?_
    refine k_seq_ret ?_
    refine ⟨[], ?_⟩
    simp only [hT, tab36, mr0, mr1, mr2, Nat.reduceLT, Nat.reduceEqDiff, Nat.reduceAdd, Nat.reduceMul, Nat.reduceSub, Nat.reduceLeDiff, Nat.reduceBEq, Nat.reduceBNe, reduceIte, reduceDIte, reduceCtorEq]
    simp [trimPre, hb0]
  · intro hb0
    try simp only [decide_eq_true_eq, decide_eq_false_iff_not, beq_eq_false_iff_ne, bne_eq_false_iff_eq, Bool.not_eq_false', Bool.and_eq_false_imp] at hb0
    refine r_skip ?_
    refine k_seq ?_
    refine r_seq ?_
    refine q_region hG ?_ ?_ -- R3
    · trivial
    refine k_seq ?_
    refine r_ret ?_
    refine ⟨[], ?_⟩
    simp only [hT, tab36, mr0, mr1, mr2, Nat.reduceLT, Nat.reduceEqDiff, Nat.reduceAdd, Nat.reduceMul, Nat.reduceSub, Nat.reduceLeDiff, Nat.reduceBEq, Nat.reduceBNe, reduceIte, reduceDIte, reduceCtorEq]
    simp [trimPre, hb0]

def tab17 (B : Base) : Tab := { types := [(9, .str)], elems := [], cons := [(58, cTrimPre)], hint := [], N := 8, base := B }
theorem good17 {B : Base} (hB : Tabs B) : MGood Tryz.prog (tab17 B) := ⟨⟨types_cons ty9 (types_nil), elems_nil, by simp only [tab17, ioB]; omega⟩, cons_ok (cals_cons (cal_ok Tryz.func58 (by kernel_rfl) rfl (valid36 hB)) (cals_nil)), by kernel_rfl⟩
theorem valid17 {B : Base} (hB : Tabs B) : Valid B Tryz.prog 28 cTrimPre := by
  refine valid_of_J (T := tab17 B) (good17 hB).tab Tryz.func28 rfl rfl rfl ?_
  intro args os C rs os' hc hC
  unfold cTrimPre at hc
  split at hc
  case h_2 => cases hc
  rename_i s p
  cases hc
  refine ⟨by simp only [List.length_cons, List.length_nil, tab17]; omega, rfl, ?_⟩
  intro X hP hT hr
  have hG : MGood X.P X.T := by rw [hP, hT]; exact good17 hB
  unfold tab17 at hT
  have hX := @cTrimPre.eq_1
  simp only [Tryz.f28, argEnv, ioList, ioB]
  refine r_seq ?_
  refine q_region hG ?_ ?_ -- R0
  · trivial
  refine k_seq ?_
  refine r_seq ?_
  refine q_region hG ?_ ?_ -- R1
  · trivial
  refine k_seq ?_
  refine r_ret ?_
  refine ⟨[], ?_⟩
  simp only [hT, tab17, mr0, mr1, mr2, Nat.reduceLT, Nat.reduceEqDiff, Nat.reduceAdd, Nat.reduceMul, Nat.reduceSub, Nat.reduceLeDiff, Nat.reduceBEq, Nat.reduceBNe, reduceIte, reduceDIte, reduceCtorEq]
  skip

def tab61 (B : Base) : Tab := { types := [(61, (.slice (.int .u32)))], elems := [], cons := [], hint := [], N := 4, base := B }
theorem good61 {B : Base} (hB : Tabs B) : MGood Tryz.prog (tab61 B) := ⟨⟨types_cons ty61 (types_nil), elems_nil, by simp only [tab61, ioB]; omega⟩, cons_nil rfl, by kernel_rfl⟩
def cBack : Con := fun l os => match l, os with
  | [.z (.slice (.int .u32)) xs], [] => some (True, [.fn 82 [.z (.ptr (.slice (.int .u32))) xs]], [])
  | _, _ => none

theorem valid61 {B : Base} (hB : Tabs B) : Valid B Tryz.prog 60 cBack := by
  refine valid_of_J (T := tab61 B) (good61 hB).tab Tryz.func60 rfl rfl rfl ?_
  intro args os C rs os' hc hC
  unfold cBack at hc
  split at hc
  case h_2 => cases hc
  rename_i xs
  cases hc
  refine ⟨by simp only [List.length_cons, List.length_nil, tab61]; omega, rfl, ?_⟩
  intro X hP hT hr
  have hG : MGood X.P X.T := by rw [hP, hT]; exact good61 hB
  unfold tab61 at hT
  have hX := Bool.not_true
  simp only [Tryz.f60, argEnv, ioList, ioB]
  refine r_seq ?_
  refine q_region hG ?_ ?_ -- R0
  · trivial
  refine k_seq ?_
  refine r_seq ?_
  refine q_region hG ?_ ?_ -- R1
  · trivial
  refine k_seq ?_
  refine r_ret ?_
  refine ⟨[], ?_⟩
  simp only [hT, tab61, mr0, mr1, mr2, Nat.reduceLT, Nat.reduceEqDiff, Nat.reduceAdd, Nat.reduceMul, Nat.reduceSub, Nat.reduceLeDiff, Nat.reduceBEq, Nat.reduceBNe, reduceIte, reduceDIte, reduceCtorEq]
  rfl

def tab34 (B : Base) : Tab := { types := [(3, (.int .i64)), (4, .bool), (61, (.slice (.int .u32))), (63, (.st (.pair .bool (.slice (.int .u32)))))], elems := [], cons := [(39, cSign), (75, cCmpi), (76, cCompare)], hint := [], N := 32, base := B }
theorem good34 {B : Base} (hB : Tabs B) : MGood Tryz.prog (tab34 B) := ⟨⟨types_cons ty3 (types_cons ty4 (types_cons ty61 (types_cons ty63 (types_nil)))), elems_nil, by simp only [tab34, ioB]; omega⟩, cons_ok (cals_cons (cal_ok Tryz.func39 (by kernel_rfl) rfl (valid31 hB)) (cals_cons (cal_ok Tryz.func75 (by kernel_rfl) rfl (valid58 hB)) (cals_cons (cal_ok Tryz.func76 (by kernel_rfl) rfl (valid51 hB)) (cals_nil)))), by kernel_rfl⟩
def cCmp : Con := fun l os => match l, os with
  | [.z (.st (.pair .bool (.slice (.int .u32)))) x, .z (.st (.pair .bool (.slice (.int .u32)))) y], [] => some (WOK x ∧ WOK y ∧ x.2.length + y.2.length < CAP, [.z (.int .i64) (cmpI (dec x) (dec y))], [])
  | _, _ => none

theorem valid34 {B : Base} (hB : Tabs B) : Valid B Tryz.prog 50 cCmp := by
  refine valid_of_J (T := tab34 B) (good34 hB).tab Tryz.func50 rfl rfl rfl ?_
  intro args os C rs os' hc hC
  unfold cCmp at hc
  split at hc
  case h_2 => cases hc
  rename_i x y
  cases hc
  refine ⟨by simp only [List.length_cons, List.length_nil, tab34]; omega, rfl, ?_⟩
  intro X hP hT hr
  have hG : MGood X.P X.T := by rw [hP, hT]; exact good34 hB
  unfold tab34 at hT
  have hX := And.intro (@cSign.eq_1) <| And.intro (@cCmpi.eq_1) <| @cCompare.eq_1
  simp only [Tryz.f50, argEnv, ioList, ioB]
  refine r_seq ?_
  refine q_region hG ?_ ?_ -- R0
  · trivial
  refine k_seq ?_
  refine r_seq ?_
  refine r_seq ?_
  refine q_draw hG ?_ ?_ -- R1
  · try simp only [and_true, true_and]
    exact ⟨hC.1, hC.2.1⟩
  refine k_seq ?_
  refine r_seq ?_
  refine q_region hG ?_ ?_ -- R2
  · try simp only [and_true, true_and]
    (repeat' (first | apply And.intro | intro _)) <;> (try simp only [decide_eq_true_eq, decide_eq_false_iff_not, Bool.not_eq_true', beq_iff_eq, Int.toNat_natCast] at *) <;> first | assumption | omega | trivial | (simp_all; done) | (simp_all; omega)
  refine k_seq ?_
  refine q_cond ?_ ?_
  · intro hb0
    try simp only [decide_eq_true_eq, decide_eq_false_iff_not, beq_iff_eq, bne_iff_ne, Bool.not_eq_true', Bool.and_eq_true] at hb0
    refine r_seq ?_
    refine q_region hG ?_ ?_ -- R3
    · trivial
    refine k_seq ?_
    refine r_ret ?_
    refine k_seq_ret ?_
    refine ⟨[], ?_⟩
    simp only [hT, tab34, mr0, mr1, mr2, Nat.reduceLT, Nat.reduceEqDiff, Nat.reduceAdd, Nat.reduceMul, Nat.reduceSub, Nat.reduceLeDiff, Nat.reduceBEq, Nat.reduceBNe, reduceIte, reduceDIte, reduceCtorEq]
    exact cmp_first hC.1 hb0
  · intro hb0
    try simp only [decide_eq_true_eq, decide_eq_false_iff_not, beq_eq_false_iff_ne, bne_eq_false_iff_eq, Bool.not_eq_false', Bool.and_eq_false_imp] at hb0
    refine r_skip ?_
    refine k_seq ?_
    refine r_seq ?_
    refine r_seq ?_
    refine q_region hG ?_ ?_ -- R4
    · trivial
    refine k_seq ?_
    refine q_cond ?_ ?_
    · intro hb1
      try simp only [decide_eq_true_eq, decide_eq_false_iff_not, beq_iff_eq, bne_iff_ne, Bool.not_eq_true', Bool.and_eq_true] at hb1
      refine r_seq ?_
      refine q_region hG ?_ ?_ -- R5
      · try simp only [and_true, true_and]
        exact ⟨hC.2.1.1, hC.1.1, by omega⟩
      refine k_seq ?_
      refine r_ret ?_
      refine k_seq_ret ?_
      refine ⟨[], ?_⟩
      simp only [hT, tab34, mr0, mr1, mr2, Nat.reduceLT, Nat.reduceEqDiff, Nat.reduceAdd, Nat.reduceMul, Nat.reduceSub, Nat.reduceLeDiff, Nat.reduceBEq, Nat.reduceBNe, reduceIte, reduceDIte, reduceCtorEq]
      exact (cmp_second hC.1 hC.2.1 hb0).1 hb1
    · intro hb1
      try simp only [decide_eq_true_eq, decide_eq_false_iff_not, beq_eq_false_iff_ne, bne_eq_false_iff_eq, Bool.not_eq_false', Bool.and_eq_false_imp] at hb1
      refine r_skip ?_
      refine k_seq ?_
      refine r_seq ?_
      refine q_region hG ?_ ?_ -- R6
      · try simp only [and_true, true_and]
        exact ⟨hC.1.1, hC.2.1.1, by omega⟩
      refine k_seq ?_
      refine r_ret ?_
      refine ⟨[], ?_⟩
      simp only [hT, tab34, mr0, mr1, mr2, Nat.reduceLT, Nat.reduceEqDiff, Nat.reduceAdd, Nat.reduceMul, Nat.reduceSub, Nat.reduceLeDiff, Nat.reduceBEq, Nat.reduceBNe, reduceIte, reduceDIte, reduceCtorEq]
      exact (cmp_second hC.1 hC.2.1 hb0).2 hb1

end Go.Proofs.YtkgbdpmhdplddaaGreatDoor
end

section
/- The functions of the package exact, one after the other: each meets its contract. -/
set_option linter.unusedSimpArgs false
set_option linter.unusedVariables false
set_option maxRecDepth 100000
namespace Go.Proofs.YtkgbdpmhdplddaaGreatDoor
open Go Go.Cm Go.Proofs

def tab47 (B : Base) : Tab := { types := [(3, (.int .i64)), (9, .str), (61, (.slice (.int .u32))), (63, (.st (.pair .bool (.slice (.int .u32))))), (89, (.int .u32))], elems := [], cons := [(69, cItoa)], hint := [], N := 22, base := B }
theorem good47 {B : Base} (hB : Tabs B) : MGood Tryz.prog (tab47 B) := ⟨⟨types_cons ty3 (types_cons ty9 (types_cons ty61 (types_cons ty63 (types_cons ty89 (types_nil))))), elems_nil, by simp only [tab47, ioB]; omega⟩, cons_ok (cals_cons (cal_ok Tryz.func69 (by kernel_rfl) rfl (valid57 hB)) (cals_nil)), by kernel_rfl⟩
def cDigits : Con := fun l os => match l, os with
  | [.z (.st (.pair .bool (.slice (.int .u32)))) x], [] => some (WOK x ∧ x.2.length < CAP, [.z (.int .i64) (ndig (dec x))], [])
  | _, _ => none

theorem valid47 {B : Base} (hB : Tabs B) : Valid B Tryz.prog 52 cDigits := by
  refine valid_of_J (T := tab47 B) (good47 hB).tab Tryz.func52 rfl rfl rfl ?_
  intro args os C rs os' hc hC
  unfold cDigits at hc
  split at hc
  case h_2 => cases hc
  rename_i x
  cases hc
  refine ⟨by simp only [List.length_cons, List.length_nil, tab47]; omega, rfl, ?_⟩
  intro X hP hT hr
  have hG : MGood X.P X.T := by rw [hP, hT]; exact good47 hB
  unfold tab47 at hT
  have hX := @cItoa.eq_1
  simp only [Tryz.f52, argEnv, ioList, ioB]
  refine r_seq ?_
  refine q_region hG ?_ ?_ -- R0
  · trivial
  refine k_seq ?_
  refine r_seq ?_
  refine q_region hG ?_ ?_ -- R1
  · trivial
  refine k_seq ?_
  refine r_seq ?_
  refine r_seq ?_
  refine q_region hG ?_ ?_ -- R2
  · trivial
  refine k_seq ?_
  refine q_cond ?_ ?_
  · intro hb0
    try simp only [decide_eq_true_eq, decide_eq_false_iff_not, beq_iff_eq, bne_iff_ne, Bool.not_eq_true', Bool.and_eq_true] at hb0
    refine r_seq ?_
    refine q_region hG ?_ ?_ -- R3
    · trivial
    refine k_seq ?_
    refine r_ret ?_
    refine k_seq_ret ?_
    refine ⟨[], ?_⟩
    simp only [hT, tab47, mr0, mr1, mr2, Nat.reduceLT, Nat.reduceEqDiff, Nat.reduceAdd, Nat.reduceMul, Nat.reduceSub, Nat.reduceLeDiff, Nat.reduceBEq, Nat.reduceBNe, reduceIte, reduceDIte, reduceCtorEq]
    rw [(dec_sign hC.1).1.1 hb0, ndig_zero]
  · intro hb0
    try simp only [decide_eq_true_eq, decide_eq_false_iff_not, beq_eq_false_iff_ne, bne_eq_false_iff_eq, Bool.not_eq_false', Bool.and_eq_false_imp] at hb0
    refine r_skip ?_
    refine k_seq ?_
    refine r_seq ?_
    refine q_region hG ?_ ?_ -- R4
    · try simp only [and_true, true_and]
      obtain ⟨d1, d2, d3, d4⟩ := dig_goal hC.1 hC.2 hb0
      have d5 := last_lim hC.1.1.1 (by omega)
      have hB : LB = 1000000000 := rfl
      rw [d2, d3]
      exact ⟨d1, by unfold I64; omega⟩
    refine k_seq ?_
    refine r_ret ?_
    refine ⟨[], ?_⟩
    simp only [hT, tab47, mr0, mr1, mr2, Nat.reduceLT, Nat.reduceEqDiff, Nat.reduceAdd, Nat.reduceMul, Nat.reduceSub, Nat.reduceLeDiff, Nat.reduceBEq, Nat.reduceBNe, reduceIte, reduceDIte, reduceCtorEq]
    obtain ⟨d1, d2, d3, d4⟩ := dig_goal hC.1 hC.2 hb0
    rw [d2, d3]
    exact d4

def tab48 (B : Base) : Tab := { types := [(3, (.int .i64)), (63, (.st (.pair .bool (.slice (.int .u32)))))], elems := [], cons := [(41, cText), (52, cDigits)], hint := [], N := 9, base := B }
theorem good48 {B : Base} (hB : Tabs B) : MGood Tryz.prog (tab48 B) := ⟨⟨types_cons ty3 (types_cons ty63 (types_nil)), elems_nil, by simp only [tab48, ioB]; omega⟩, cons_ok (cals_cons (cal_ok Tryz.func41 (by kernel_rfl) rfl (valid33 hB)) (cals_cons (cal_ok Tryz.func52 (by kernel_rfl) rfl (valid47 hB)) (cals_nil))), by kernel_rfl⟩
def cTold : Con := fun l os => match l, os with
  | [.z (.st (.pair .bool (.slice (.int .u32)))) x], [] => some (WOK x ∧ x.2.length < CAP, [.z .str (if 2000 < ndig (dec x) then [] else Lib.itoa (dec x)), .z (.int .i64) (if 2000 < ndig (dec x) then 6 else 0)], [])
  | _, _ => none

theorem valid48 {B : Base} (hB : Tabs B) : Valid B Tryz.prog 53 cTold := by
  refine valid_of_J (T := tab48 B) (good48 hB).tab Tryz.func53 rfl rfl rfl ?_
  intro args os C rs os' hc hC
  unfold cTold at hc
  split at hc
  case h_2 => cases hc
  rename_i x
  cases hc
  refine ⟨by simp only [List.length_cons, List.length_nil, tab48]; omega, rfl, ?_⟩
  intro X hP hT hr
  have hG : MGood X.P X.T := by rw [hP, hT]; exact good48 hB
  unfold tab48 at hT
  have hX := And.intro (@cDigits.eq_1) <| @cText.eq_1
  simp only [Tryz.f53, argEnv, ioList, ioB]
  refine r_seq ?_
  refine q_region hG ?_ ?_ -- R0
  · trivial
  refine k_seq ?_
  refine r_seq ?_
  refine r_seq ?_
  refine q_region hG ?_ ?_ -- R1
  · try simp only [and_true, true_and]
    exact hC
  refine k_seq ?_
  refine q_cond ?_ ?_
  · intro hb0
    try simp only [decide_eq_true_eq, decide_eq_false_iff_not, beq_iff_eq, bne_iff_ne, Bool.not_eq_true', Bool.and_eq_true] at hb0
    refine r_seq ?_
    refine q_region hG ?_ ?_ -- R2
    · trivial
    refine k_seq ?_
    refine r_ret ?_
    refine k_seq_ret ?_
    refine ⟨[], ?_⟩
    simp only [hT, tab48, mr0, mr1, mr2, Nat.reduceLT, Nat.reduceEqDiff, Nat.reduceAdd, Nat.reduceMul, Nat.reduceSub, Nat.reduceLeDiff, Nat.reduceBEq, Nat.reduceBNe, reduceIte, reduceDIte, reduceCtorEq]
    rw [if_pos hb0, if_pos hb0]; exact ⟨rfl, rfl⟩
  · intro hb0
    try simp only [decide_eq_true_eq, decide_eq_false_iff_not, beq_eq_false_iff_ne, bne_eq_false_iff_eq, Bool.not_eq_false', Bool.and_eq_false_imp] at hb0
    refine r_skip ?_
    refine k_seq ?_
    refine r_seq ?_
    refine q_region hG ?_ ?_ -- R3
    · try simp only [and_true, true_and]
      exact hC
    refine k_seq ?_
    refine r_ret ?_
    refine ⟨[], ?_⟩
    simp only [hT, tab48, mr0, mr1, mr2, Nat.reduceLT, Nat.reduceEqDiff, Nat.reduceAdd, Nat.reduceMul, Nat.reduceSub, Nat.reduceLeDiff, Nat.reduceBEq, Nat.reduceBNe, reduceIte, reduceDIte, reduceCtorEq]
    rw [if_neg hb0, if_neg hb0]; exact ⟨rfl, rfl⟩

def tab37 (B : Base) : Tab := { types := [(3, (.int .i64)), (61, (.slice (.int .u32))), (63, (.st (.pair .bool (.slice (.int .u32))))), (89, (.int .u32)), (91, (.int .u64))], elems := [(61, 89)], cons := [], hint := [], N := 27, base := B }
theorem good37 {B : Base} (hB : Tabs B) : MGood Tryz.prog (tab37 B) := ⟨⟨types_cons ty3 (types_cons ty61 (types_cons ty63 (types_cons ty89 (types_cons ty91 (types_nil))))), elems_cons (by kernel_rfl) (elems_nil), by simp only [tab37, ioB]; omega⟩, cons_nil rfl, by kernel_rfl⟩
def cSmall : Con := fun l os => match l, os with
  | [.z (.int .i64) n], [] => some (I64 n, [.z (.st (.pair .bool (.slice (.int .u32)))) (enc n)], [])
  | _, _ => none

theorem valid37 {B : Base} (hB : Tabs B) : Valid B Tryz.prog 49 cSmall := by
  refine valid_of_J (T := tab37 B) (good37 hB).tab Tryz.func49 rfl rfl rfl ?_
  intro args os C rs os' hc hC
  unfold cSmall at hc
  split at hc
  case h_2 => cases hc
  rename_i n
  cases hc
  refine ⟨by simp only [List.length_cons, List.length_nil, tab37]; omega, rfl, ?_⟩
  intro X hP hT hr
  have hG : MGood X.P X.T := by rw [hP, hT]; exact good37 hB
  unfold tab37 at hT
  have hX := Bool.not_true
  simp only [Tryz.f49, argEnv, ioList, ioB]
  refine r_seq ?_
  refine q_region hG ?_ ?_ -- R0
  · trivial
  refine k_seq ?_
  refine r_seq ?_
  refine q_region hG ?_ ?_ -- R1
  · trivial
  refine k_seq ?_
  refine r_seq ?_
  refine q_region hG ?_ ?_ -- R2
  · trivial
  refine k_seq ?_
  refine r_cut (fun (z : Int) => (⟨[(4, .l (.z (.int .u64) z)), (3, .l (.ownP 3 0)), (2, .l (.ownP 2 0))], [(3, .box 63 [.z .bool (decide (n < 0)), .val (.slice none 0 0)]), (2, .box 63 [.z .bool false, .val (.slice none 0 0)])]⟩ : AState)) (fun z => z = n.natAbs) ?_ ?_
  · refine r_seq ?_
    refine q_region hG ?_ ?_ -- R3
    · trivial
    refine k_seq ?_
    refine q_cond ?_ ?_
    · intro hb0
      try simp only [decide_eq_true_eq, decide_eq_false_iff_not, beq_iff_eq, bne_iff_ne, Bool.not_eq_true', Bool.and_eq_true] at hb0
      refine q_region hG ?_ ?_ -- R4
      · trivial
      show ∃ z, _
      simp only [ml0, ml1, Nat.reduceLT, Nat.reduceEqDiff, Nat.reduceAdd, Nat.reduceMul, Nat.reduceSub, Nat.reduceLeDiff, Nat.reduceBEq, Nat.reduceBNe, reduceIte, reduceDIte, reduceCtorEq]
      first | exact (small_abs hC).1 hb0 | exact (small_abs hC).2 hb0
    · intro hb0
      try simp only [decide_eq_true_eq, decide_eq_false_iff_not, beq_eq_false_iff_ne, bne_eq_false_iff_eq, Bool.not_eq_false', Bool.and_eq_false_imp] at hb0
      refine r_skip ?_
      show ∃ z, _
      simp only [ml0, ml1, Nat.reduceLT, Nat.reduceEqDiff, Nat.reduceAdd, Nat.reduceMul, Nat.reduceSub, Nat.reduceLeDiff, Nat.reduceBEq, Nat.reduceBNe, reduceIte, reduceDIte, reduceCtorEq]
      first | exact (small_abs hC).1 hb0 | exact (small_abs hC).2 hb0
  rintro z hz
  try dsimp only at hz
  refine r_seq ?_
  refine j_block ?_
  refine j_loop (fun (z : Nat × List Int) => (⟨[(4, .l (.z (.int .u64) (z.1 : Int))), (3, .l (.ownP 3 0)), (2, .l (.ownP 2 0))], [(3, .box 63 [.z .bool (decide (n < 0)), .ownS 24]), (24, .arr (.int .u32) 89 z.2), (2, .box 63 [.z .bool false, .val (.slice none 0 0)])]⟩ : AState)) (fun z => z.2 ++ limbs z.1 = limbs n.natAbs ∧ z.1 < 18446744073709551616) (fun z => z.1) (n.natAbs, []) ?_ ?_ ?_
  · simp only [ml0, ml1, Nat.reduceLT, Nat.reduceEqDiff, Nat.reduceAdd, Nat.reduceMul, Nat.reduceSub, Nat.reduceLeDiff, Nat.reduceBEq, Nat.reduceBNe, reduceIte, reduceDIte, reduceCtorEq]
    exact ⟨hz, by unfold ioB; omega⟩
  · exact ⟨by simp, by have hC : I64 n := hC; unfold I64 at hC; omega⟩
  · rintro ⟨u, m⟩ ⟨g1, g2⟩
    try dsimp only at g1 g2
    refine r_seq ?_
    refine r_seq ?_
    refine q_region hG ?_ ?_ -- R5
    · trivial
    refine k_seq ?_
    refine q_cond ?_ ?_
    · intro hb1
      try simp only [decide_eq_true_eq, decide_eq_false_iff_not, beq_iff_eq, bne_iff_ne, Bool.not_eq_true', Bool.and_eq_true] at hb1
      refine r_skip ?_
      refine k_seq ?_
      refine r_seq ?_
      refine j_block ?_
      refine q_region hG ?_ ?_ -- R7
      · try simp only [and_true, true_and]
        have h3 := limbs_len3 (n := n.natAbs) (by have hC : I64 n := hC; unfold I64 at hC; omega)
        have h4 := congrArg List.length g1
        simp only [List.length_append] at h4
        exact ⟨by omega, by unfold Cm.Roomy; omega⟩
      refine k_block ?_
      refine k_seq ?_
      refine q_region hG ?_ ?_ -- R6
      · trivial
      show ∃ z, _
      simp only [ml0, ml1, Nat.reduceLT, Nat.reduceEqDiff, Nat.reduceAdd, Nat.reduceMul, Nat.reduceSub, Nat.reduceLeDiff, Nat.reduceBEq, Nat.reduceBNe, reduceIte, reduceDIte, reduceCtorEq]
      exact small_round g1 g2 hb1
    · intro hb1
      try simp only [decide_eq_true_eq, decide_eq_false_iff_not, beq_eq_false_iff_ne, bne_eq_false_iff_eq, Bool.not_eq_false', Bool.and_eq_false_imp] at hb1
      refine r_exit ?_
      refine k_seq_exit ?_
      refine k_round_exit ?_
      refine k_block_exit ?_
      refine k_seq ?_
      refine r_seq ?_
      refine q_region hG ?_ ?_ -- R8
      · trivial
      refine k_seq ?_
      refine r_ret ?_
      refine ⟨[24], ?_⟩
      simp only [hT, tab37, mr0, mr1, mr2, Nat.reduceLT, Nat.reduceEqDiff, Nat.reduceAdd, Nat.reduceMul, Nat.reduceSub, Nat.reduceLeDiff, Nat.reduceBEq, Nat.reduceBNe, reduceIte, reduceDIte, reduceCtorEq]
      have h0 : u = 0 := by omega
      subst h0
      rw [show limbs 0 = [] by simp [limbs], List.append_nil] at g1
      rw [g1]; rfl

end Go.Proofs.YtkgbdpmhdplddaaGreatDoor
end

section
/- The functions of the package exact, one after the other: each meets its contract. -/
set_option linter.unusedSimpArgs false
set_option linter.unusedVariables false
set_option maxRecDepth 100000
namespace Go.Proofs.YtkgbdpmhdplddaaGreatDoor
open Go Go.Cm Go.Proofs

def tab54 (B : Base) : Tab := { types := [(3, (.int .i64)), (4, .bool), (9, .str), (61, (.slice (.int .u32))), (63, (.st (.pair .bool (.slice (.int .u32))))), (89, (.int .u32)), (91, (.int .u64))], elems := [(61, 89)], cons := [(28, cTrimPre), (66, cWhole), (81, cParse)], hint := [], N := 44, base := B }
theorem good54 {B : Base} (hB : Tabs B) : MGood Tryz.prog (tab54 B) := ⟨⟨types_cons ty3 (types_cons ty4 (types_cons ty9 (types_cons ty61 (types_cons ty63 (types_cons ty89 (types_cons ty91 (types_nil))))))), elems_cons (by kernel_rfl) (elems_nil), by simp only [tab54, ioB]; omega⟩, cons_ok (cals_cons (cal_ok Tryz.func28 (by kernel_rfl) rfl (valid17 hB)) (cals_cons (cal_ok Tryz.func66 (by kernel_rfl) rfl (valid49 hB)) (cals_cons (cal_ok Tryz.func81 (by kernel_rfl) rfl (valid67 hB)) (cals_nil)))), by kernel_rfl⟩
def cRead : Con := fun l os => match l, os with
  | [.z .str s], [] => some (chk s = 0, [.z (.st (.pair .bool (.slice (.int .u32)))) (enc (numI s))], [])
  | _, _ => none

theorem valid54 {B : Base} (hB : Tabs B) : Valid B Tryz.prog 59 cRead := by
  refine valid_of_J (T := tab54 B) (good54 hB).tab Tryz.func59 rfl rfl rfl ?_
  intro args os C rs os' hc hC
  unfold cRead at hc
  split at hc
  case h_2 => cases hc
  rename_i s
  cases hc
  refine ⟨by simp only [List.length_cons, List.length_nil, tab54]; omega, rfl, ?_⟩
  intro X hP hT hr
  have hG : MGood X.P X.T := by rw [hP, hT]; exact good54 hB
  unfold tab54 at hT
  have hX := And.intro (@cTrimPre.eq_1) <| And.intro (@cParse.eq_1) <| @cWhole.eq_1
  simp only [Tryz.f59, argEnv, ioList, ioB]
  refine r_seq ?_
  refine q_region hG ?_ ?_ -- R0
  · trivial
  refine k_seq ?_
  refine r_seq ?_
  refine q_region hG ?_ ?_ -- R1
  · trivial
  refine k_seq ?_
  refine r_seq ?_
  refine q_region hG ?_ ?_ -- R2
  · trivial
  refine k_seq ?_
  refine r_seq ?_
  refine r_seq ?_
  refine q_region hG ?_ ?_ -- R3
  · trivial
  refine k_seq ?_
  refine j_block ?_
  refine j_loop (fun (z : Nat × List Int) => (⟨[(3, .l (.z .str (trimPre s [45]))), (5, .l (.z (.int .i64) (((trimPre s [45]).length : Int) - 9 * (z.1 : Int)))), (4, .l (.ownP 4 0)), (2, .l (.ownP 2 0))], [(4, .box 63 [.z .bool (decide ((trimPre s [45]).length < s.length)), .ownS 37]), (37, .arr (.int .u32) 89 z.2), (2, .box 63 [.z .bool false, .val (.slice none 0 0)])]⟩ : AState)) (fun z => ReadPhi (trimPre s [45]) z.1 z.2) (fun z => (trimPre s [45]).length + 9 - 9 * z.1) (0, []) ?_ ?_ ?_
  · simp only [ml0, ml1, Nat.reduceLT, Nat.reduceEqDiff, Nat.reduceAdd, Nat.reduceMul, Nat.reduceSub, Nat.reduceLeDiff, Nat.reduceBEq, Nat.reduceBNe, reduceIte, reduceDIte, reduceCtorEq]
    exact ⟨by show ((trimPre s [45]).length : Int) = ((trimPre s [45]).length : Int) - 9 * ((0 : Nat) : Int); omega, by congr 1; simp, by unfold ioB; omega⟩
  · exact read_start
  · rintro ⟨r, out⟩ hz
    try dsimp only at hz
    obtain ⟨d1, d2, d3, d4⟩ := chk_ok hC
    have hz1 := hz.1
    have hz4 := hz.2.2.2
    refine r_seq ?_
    refine r_seq ?_
    refine q_region hG ?_ ?_ -- R4
    · trivial
    refine k_seq ?_
    refine q_cond ?_ ?_
    · intro hb0
      try simp only [decide_eq_true_eq, decide_eq_false_iff_not, beq_iff_eq, bne_iff_ne, Bool.not_eq_true', Bool.and_eq_true] at hb0
      refine r_skip ?_
      refine k_seq ?_
      refine r_seq ?_
      refine j_block ?_
      refine r_seq ?_
      refine q_region hG ?_ ?_ -- R6
      · try simp only [and_true, true_and]
        obtain ⟨e1, e2, e3⟩ := read_idx hb0 d3
        obtain ⟨q1, q2, q3, q4, q5⟩ := read_next d1 hz hb0 rfl
        rw [e1, e2, e3]
        exact ⟨⟨by omega, by omega, by omega⟩, q1, q2, q3⟩
      refine k_seq ?_
      refine q_region hG ?_ ?_ -- R7
      · try simp only [and_true, true_and]
        unfold Cm.Roomy; omega
      refine k_block ?_
      refine k_seq ?_
      refine q_region hG ?_ ?_ -- R5
      · trivial
      show ∃ z, _
      simp only [ml0, ml1, Nat.reduceLT, Nat.reduceEqDiff, Nat.reduceAdd, Nat.reduceMul, Nat.reduceSub, Nat.reduceLeDiff, Nat.reduceBEq, Nat.reduceBNe, reduceIte, reduceDIte, reduceCtorEq]
      obtain ⟨e1, e2, e3⟩ := read_idx hb0 d3
      obtain ⟨q1, q2, q3, q4, q5⟩ := read_next d1 hz hb0 rfl
      rw [e1, e2, e3]
      exact ⟨r + 1, by show ((trimPre s [45]).length : Int) - 9 * (r : Int) - 9 = ((trimPre s [45]).length : Int) - 9 * ((r + 1 : Nat) : Int); omega, q4, by omega⟩
    · intro hb0
      try simp only [decide_eq_true_eq, decide_eq_false_iff_not, beq_eq_false_iff_ne, bne_eq_false_iff_eq, Bool.not_eq_false', Bool.and_eq_false_imp] at hb0
      refine r_exit ?_
      refine k_seq_exit ?_
      refine k_round_exit ?_
      refine k_block_exit ?_
      refine k_seq ?_
      refine r_seq ?_
      refine q_region hG ?_ ?_ -- R8
      · try simp only [and_true, true_and]
        exact ⟨hz.2.1, by unfold CAP; omega⟩
      refine k_seq ?_
      refine r_ret ?_
      refine ⟨[37], ?_⟩
      simp only [hT, tab54, mr0, mr1, mr2, Nat.reduceLT, Nat.reduceEqDiff, Nat.reduceAdd, Nat.reduceMul, Nat.reduceSub, Nat.reduceLeDiff, Nat.reduceBEq, Nat.reduceBNe, reduceIte, reduceDIte, reduceCtorEq]
      rw [read_end hz hb0]

def tab20 (B : Base) : Tab := { types := [(3, (.int .i64)), (5, (.int .u8)), (9, .str), (22, (.slice (.int .u8)))], elems := [(22, 5)], cons := [(28, cTrimPre)], hint := [], N := 38, base := B }
theorem good20 {B : Base} (hB : Tabs B) : MGood Tryz.prog (tab20 B) := ⟨⟨types_cons ty3 (types_cons ty5 (types_cons ty9 (types_cons ty22 (types_nil)))), elems_cons (by kernel_rfl) (elems_nil), by simp only [tab20, ioB]; omega⟩, cons_ok (cals_cons (cal_ok Tryz.func28 (by kernel_rfl) rfl (valid17 hB)) (cals_nil)), by kernel_rfl⟩
def cCheck : Con := fun l os => match l, os with
  | [.z .str s], [] => some (Short s, [.z (.int .i64) (chk s)], [])
  | _, _ => none

theorem valid20 {B : Base} (hB : Tabs B) : Valid B Tryz.prog 9 cCheck := by
  refine valid_of_J (T := tab20 B) (good20 hB).tab Tryz.func9 rfl rfl rfl ?_
  intro args os C rs os' hc hC
  unfold cCheck at hc
  split at hc
  case h_2 => cases hc
  rename_i s
  cases hc
  refine ⟨by simp only [List.length_cons, List.length_nil, tab20]; omega, rfl, ?_⟩
  intro X hP hT hr
  have hG : MGood X.P X.T := by rw [hP, hT]; exact good20 hB
  unfold tab20 at hT
  have hX := @cTrimPre.eq_1
  simp only [Tryz.f9, argEnv, ioList, ioB]
  refine r_seq ?_
  refine q_region hG ?_ ?_ -- R0
  · trivial
  refine k_seq ?_
  refine j_scope ?_
  refine r_seq ?_
  refine q_region hG ?_ ?_ -- R1
  · trivial
  refine k_seq ?_
  refine r_seq ?_
  refine q_region hG ?_ ?_ -- R2
  · trivial
  refine k_seq ?_
  refine r_seq ?_
  refine r_label ?_
  refine k_seq ?_
  refine r_cut (fun (z : Int) => (⟨[(4, .l (.z (.int .i64) z))], []⟩ : AState)) (fun z => z = chk s) ?_ ?_
  · refine j_block ?_
    refine r_seq ?_
    refine q_region hG ?_ ?_ -- R11
    · trivial
    refine k_seq ?_
    refine q_cond ?_ ?_
    · intro hb0
      try simp only [decide_eq_true_eq, decide_eq_false_iff_not, beq_iff_eq, bne_iff_ne, Bool.not_eq_true', Bool.and_eq_true] at hb0
      refine r_skip ?_
      refine k_block ?_
      show ∃ z, _
      simp only [ml0, ml1, Nat.reduceLT, Nat.reduceEqDiff, Nat.reduceAdd, Nat.reduceMul, Nat.reduceSub, Nat.reduceLeDiff, Nat.reduceBEq, Nat.reduceBNe, reduceIte, reduceDIte, reduceCtorEq]
      first | (rw [hb0]; exact chk_zero.symm) | exact (chk_first hb0 ((first_iff _).1 hb1)).symm | exact (chk_bad hb0 (first_not hb1) (by rw [bytes_len] at hb2; omega) (byte_bad hb3)).symm | (rw [bytes_len] at hb2; rw [chk_good hb0 (first_not hb1) (by rw [List.take_of_length_le (by omega)] at g2; exact g2)]; first | rw [if_pos (by omega)] | rw [if_neg (by omega)])
    · intro hb0
      try simp only [decide_eq_true_eq, decide_eq_false_iff_not, beq_eq_false_iff_ne, bne_eq_false_iff_eq, Bool.not_eq_false', Bool.and_eq_false_imp] at hb0
      refine r_seq ?_
      refine q_region hG ?_ ?_ -- R12
      · try simp only [and_true, true_and]
        exact idx_side _
      refine k_seq ?_
      refine q_cond ?_ ?_
      · intro hb1
        try simp only [decide_eq_true_eq, decide_eq_false_iff_not, beq_iff_eq, bne_iff_ne, Bool.not_eq_true', Bool.and_eq_true] at hb1
        refine q_region hG ?_ ?_ -- R13
        · trivial
        refine k_block ?_
        show ∃ z, _
        simp only [ml0, ml1, Nat.reduceLT, Nat.reduceEqDiff, Nat.reduceAdd, Nat.reduceMul, Nat.reduceSub, Nat.reduceLeDiff, Nat.reduceBEq, Nat.reduceBNe, reduceIte, reduceDIte, reduceCtorEq]
        first | (rw [hb0]; exact chk_zero.symm) | exact (chk_first hb0 ((first_iff _).1 hb1)).symm | exact (chk_bad hb0 (first_not hb1) (by rw [bytes_len] at hb2; omega) (byte_bad hb3)).symm | (rw [bytes_len] at hb2; rw [chk_good hb0 (first_not hb1) (by rw [List.take_of_length_le (by omega)] at g2; exact g2)]; first | rw [if_pos (by omega)] | rw [if_neg (by omega)])
      · intro hb1
        try simp only [decide_eq_true_eq, decide_eq_false_iff_not, beq_eq_false_iff_ne, bne_eq_false_iff_eq, Bool.not_eq_false', Bool.and_eq_false_imp] at hb1
        refine r_seq ?_
        refine r_seq ?_
        refine q_region hG ?_ ?_ -- R3
        · try simp only [and_true, true_and]
          have := trim_len s [45]
          have hC : s.length < 70368744177664 := hC
          omega
        refine k_seq ?_
        refine j_block ?_
        refine j_loop (fun (z : Nat) => (⟨[(0, .l (.z .str s)), (3, .l (.z .str (trimPre s [45]))), (4, .l (.z (.int .i64) 0)), (10, .l (.z (.slice (.int .u8)) (bytesOf (trimPre s [45])))), (11, .l (.z (.int .i64) ((bytesOf (trimPre s [45])).length : Int))), (12, .l (.z (.int .i64) (z : Int)))], []⟩ : AState)) (fun z => z ≤ (trimPre s [45]).length ∧ (List.take z (trimPre s [45])).all isDig = true) (fun z => (trimPre s [45]).length - z) 0 ?_ ?_ ?_
        · simp only [ml0, ml1, Nat.reduceLT, Nat.reduceEqDiff, Nat.reduceAdd, Nat.reduceMul, Nat.reduceSub, Nat.reduceLeDiff, Nat.reduceBEq, Nat.reduceBNe, reduceIte, reduceDIte, reduceCtorEq]
          rfl
        · exact ⟨Nat.zero_le _, rfl⟩
        · rintro k ⟨g1, g2⟩
          try dsimp only at g1 g2
          have hS : (trimPre s [45]).length < 70368744177664 := Nat.lt_of_le_of_lt (trim_len s _) hC
          refine r_seq ?_
          refine q_region hG ?_ ?_ -- R4
          · trivial
          refine k_seq ?_
          refine r_seq ?_
          refine q_cond ?_ ?_
          · intro hb2
            try simp only [decide_eq_true_eq, decide_eq_false_iff_not, beq_iff_eq, bne_iff_ne, Bool.not_eq_true', Bool.and_eq_true] at hb2
            refine r_skip ?_
            refine k_seq ?_
            refine r_seq ?_
            refine j_block ?_
            refine r_seq ?_
            refine q_region hG ?_ ?_ -- R5
            · try simp only [and_true, true_and]
              exact ⟨by omega, hb2⟩
            refine k_seq ?_
            refine r_seq ?_
            refine q_region hG ?_ ?_ -- R6
            · try simp only [and_true, true_and]
              exact ⟨fun h => h, fun h => by rw [h]; rfl⟩
            refine k_seq ?_
            refine q_cond ?_ ?_
            · intro hb3
              try simp only [decide_eq_true_eq, decide_eq_false_iff_not, beq_iff_eq, bne_iff_ne, Bool.not_eq_true', Bool.and_eq_true] at hb3
              refine r_seq ?_
              refine q_region hG ?_ ?_ -- R7
              · trivial
              refine k_seq ?_
              refine r_exit ?_
              refine k_block_out rfl ?_
              refine k_seq_exit ?_
              refine k_round_exit ?_
              refine k_block_out rfl ?_
              refine k_seq_exit ?_
              refine k_block_exit ?_
              show ∃ z, _
              simp only [ml0, ml1, Nat.reduceLT, Nat.reduceEqDiff, Nat.reduceAdd, Nat.reduceMul, Nat.reduceSub, Nat.reduceLeDiff, Nat.reduceBEq, Nat.reduceBNe, reduceIte, reduceDIte, reduceCtorEq]
              first | (rw [hb0]; exact chk_zero.symm) | exact (chk_first hb0 ((first_iff _).1 hb1)).symm | exact (chk_bad hb0 (first_not hb1) (by rw [bytes_len] at hb2; omega) (byte_bad hb3)).symm | (rw [bytes_len] at hb2; rw [chk_good hb0 (first_not hb1) (by rw [List.take_of_length_le (by omega)] at g2; exact g2)]; first | rw [if_pos (by omega)] | rw [if_neg (by omega)])
            · intro hb3
              try simp only [decide_eq_true_eq, decide_eq_false_iff_not, beq_eq_false_iff_ne, bne_eq_false_iff_eq, Bool.not_eq_false', Bool.and_eq_false_imp] at hb3
              refine r_skip ?_
              refine k_block ?_
              refine k_seq ?_
              refine q_region hG ?_ ?_ -- R8
              · trivial
              show ∃ z, _
              simp only [ml0, ml1, Nat.reduceLT, Nat.reduceEqDiff, Nat.reduceAdd, Nat.reduceMul, Nat.reduceSub, Nat.reduceLeDiff, Nat.reduceBEq, Nat.reduceBNe, reduceIte, reduceDIte, reduceCtorEq]
              rw [bytes_len] at hb2
              exact ⟨k + 1, by rw [wi (by omega) (by omega)]; simp, by omega, all_take_succ g2 (byte_good hb3), by omega⟩
          · intro hb2
            try simp only [decide_eq_true_eq, decide_eq_false_iff_not, beq_eq_false_iff_ne, bne_eq_false_iff_eq, Bool.not_eq_false', Bool.and_eq_false_imp] at hb2
            refine r_exit ?_
            refine k_seq_exit ?_
            refine k_round_exit ?_
            refine k_block_exit ?_
            refine k_seq ?_
            refine r_seq ?_
            refine q_region hG ?_ ?_ -- R9
            · trivial
            refine k_seq ?_
            refine q_cond ?_ ?_
            · intro hb4
              try simp only [decide_eq_true_eq, decide_eq_false_iff_not, beq_iff_eq, bne_iff_ne, Bool.not_eq_true', Bool.and_eq_true] at hb4
              refine q_region hG ?_ ?_ -- R10
              · trivial
              refine k_block ?_
              show ∃ z, _
              simp only [ml0, ml1, Nat.reduceLT, Nat.reduceEqDiff, Nat.reduceAdd, Nat.reduceMul, Nat.reduceSub, Nat.reduceLeDiff, Nat.reduceBEq, Nat.reduceBNe, reduceIte, reduceDIte, reduceCtorEq]
              first | (rw [hb0]; exact chk_zero.symm) | exact (chk_first hb0 ((first_iff _).1 hb1)).symm | exact (chk_bad hb0 (first_not hb1) (by rw [bytes_len] at hb2; omega) (byte_bad hb3)).symm | (rw [bytes_len] at hb2; rw [chk_good hb0 (first_not hb1) (by rw [List.take_of_length_le (by omega)] at g2; exact g2)]; first | rw [if_pos (by omega)] | rw [if_neg (by omega)])
            · intro hb4
              try simp only [decide_eq_true_eq, decide_eq_false_iff_not, beq_eq_false_iff_ne, bne_eq_false_iff_eq, Bool.not_eq_false', Bool.and_eq_false_imp] at hb4
              refine r_skip ?_
              refine k_block ?_
              show ∃ z, _
              simp only [ml0, ml1, Nat.reduceLT, Nat.reduceEqDiff, Nat.reduceAdd, Nat.reduceMul, Nat.reduceSub, Nat.reduceLeDiff, Nat.reduceBEq, Nat.reduceBNe, reduceIte, reduceDIte, reduceCtorEq]
              first | (rw [hb0]; exact chk_zero.symm) | exact (chk_first hb0 ((first_iff _).1 hb1)).symm | exact (chk_bad hb0 (first_not hb1) (by rw [bytes_len] at hb2; omega) (byte_bad hb3)).symm | (rw [bytes_len] at hb2; rw [chk_good hb0 (first_not hb1) (by rw [List.take_of_length_le (by omega)] at g2; exact g2)]; first | rw [if_pos (by omega)] | rw [if_neg (by omega)])
  rintro z hz
  try dsimp only at hz
  refine r_seq ?_
  refine q_region hG ?_ ?_ -- R14
  · trivial
  refine k_seq ?_
  refine r_ret ?_
  refine k_scope_ret ?_
  refine ⟨[], ?_⟩
  simp only [hT, tab20, mr0, mr1, mr2, Nat.reduceLT, Nat.reduceEqDiff, Nat.reduceAdd, Nat.reduceMul, Nat.reduceSub, Nat.reduceLeDiff, Nat.reduceBEq, Nat.reduceBNe, reduceIte, reduceDIte, reduceCtorEq]
  exact hz

end Go.Proofs.YtkgbdpmhdplddaaGreatDoor
end

section
/- The functions of the package exact, one after the other: each meets its contract. -/
set_option linter.unusedSimpArgs false
set_option linter.unusedVariables false
set_option maxRecDepth 100000
namespace Go.Proofs.YtkgbdpmhdplddaaGreatDoor
open Go Go.Cm Go.Proofs

def tab59 (B : Base) : Tab := { types := [(61, (.slice (.int .u32))), (89, (.int .u32)), (91, (.int .u64))], elems := [], cons := [(60, cBack)], hint := [], N := 16, base := B }
theorem good59 {B : Base} (hB : Tabs B) : MGood Tryz.prog (tab59 B) := ⟨⟨types_cons ty61 (types_cons ty89 (types_cons ty91 (types_nil))), elems_nil, by simp only [tab59, ioB]; omega⟩, cons_ok (cals_cons (cal_ok Tryz.func60 (by kernel_rfl) rfl (valid61 hB)) (cals_nil)), by kernel_rfl⟩
def cValue : Con := fun l os => match l, os with
  | [.z (.slice (.int .u32)) m], [] => some (Lim m ∧ m.length ≤ 2, [.z (.int .u64) (valL m)], [])
  | _, _ => none

theorem valid59 {B : Base} (hB : Tabs B) : Valid B Tryz.prog 72 cValue := by
  refine valid_of_J (T := tab59 B) (good59 hB).tab Tryz.func72 rfl rfl rfl ?_
  intro args os C rs os' hc hC
  unfold cValue at hc
  split at hc
  case h_2 => cases hc
  rename_i m
  cases hc
  refine ⟨by simp only [List.length_cons, List.length_nil, tab59]; omega, rfl, ?_⟩
  intro X hP hT hr
  have hG : MGood X.P X.T := by rw [hP, hT]; exact good59 hB
  unfold tab59 at hT
  have hX := @cBack.eq_1
  simp only [Tryz.f72, argEnv, ioList, ioB]
  refine r_seq ?_
  refine q_region hG ?_ ?_ -- R0
  · trivial
  refine k_seq ?_
  refine r_seq ?_
  refine q_region hG ?_ ?_ -- R1
  · trivial
  refine k_seq ?_
  refine r_seq ?_
  refine r_seq ?_
  refine q_region hG ?_ ?_ -- R2
  · trivial
  refine k_seq ?_
  refine j_block ?_
  refine j_range hr (gf := 82) (caps := [.z (.ptr (.slice (.int .u32))) m]) (items := backItems m) (by simp only [hT, tab59, mx0, mx1, mx2, mx3, mx4, mx5, effOp, endCall, callOp, appendOp, sliceLV, Ty.fieldTy, Ty.fieldOf, Nat.reduceLT, Nat.reduceEqDiff, Nat.reduceAdd, Nat.reduceMul, Nat.reduceSub, Nat.reduceLeDiff, Nat.reduceBEq, Nat.reduceBNe, reduceIte, reduceDIte, reduceCtorEq]; try rfl) (by rfl) (by rw [hP]; exact seq_back m) (by rfl) [3] (by rfl) (by simp only [hT, tab59]; try rfl) (fun (k : Nat) (z : Int) => (⟨[(3, .l (.ownP 3 0))], [(3, .box 91 [.z (.int .u64) z])]⟩ : AState)) (fun (k : Nat) (z : Int) => z = valL (List.drop (List.length m - k) m)) 0 ?_ ?_ ?_ ?_ ?_
  · simp only [ml0, ml1, Nat.reduceLT, Nat.reduceEqDiff, Nat.reduceAdd, Nat.reduceMul, Nat.reduceSub, Nat.reduceLeDiff, Nat.reduceBEq, Nat.reduceBNe, reduceIte, reduceDIte, reduceCtorEq]
  · rw [drop_all]; rfl
  · intro k z; rfl
  · intro k hk
    rintro z hz
    try dsimp only at hz
    have hk : k < List.length m := by simpa [backItems] using hk
    refine ⟨_, by simp only [hT, tab59, backItems, backItem, mx0, mx1, mx2, mx3, mx4, mx5, effOp, endCall, callOp, appendOp, sliceLV, Ty.fieldTy, Ty.fieldOf, Nat.reduceLT, Nat.reduceEqDiff, Nat.reduceAdd, Nat.reduceMul, Nat.reduceSub, Nat.reduceLeDiff, Nat.reduceBEq, Nat.reduceBNe, reduceIte, reduceDIte, reduceCtorEq, List.getElem_map, List.getElem_range]; rfl, ?_⟩
    intro X' hP' hT'
    have hG' : MGood X'.P X'.T := by rw [hP', hT']; exact hG.keep _
    rw [hT] at hT'
    refine j_block ?_
    refine q_region' hG' ?_ ?_ -- R4
    · trivial
    refine k_block ?_
    show ∃ z, _
    simp only [ml0, ml1, Nat.reduceLT, Nat.reduceEqDiff, Nat.reduceAdd, Nat.reduceMul, Nat.reduceSub, Nat.reduceLeDiff, Nat.reduceBEq, Nat.reduceBNe, reduceIte, reduceDIte, reduceCtorEq]
    exact value_round hC.1 hC.2 hk hz
  · rintro z hz
    try dsimp only at hz
    rw [show List.length (backItems m) = List.length m by simp [backItems], Nat.sub_self, List.drop_zero] at hz
    refine k_block ?_
    refine k_seq ?_
    refine r_seq ?_
    refine q_region hG ?_ ?_ -- R5
    · trivial
    refine k_seq ?_
    refine r_ret ?_
    refine ⟨[], ?_⟩
    simp only [hT, tab59, mr0, mr1, mr2, Nat.reduceLT, Nat.reduceEqDiff, Nat.reduceAdd, Nat.reduceMul, Nat.reduceSub, Nat.reduceLeDiff, Nat.reduceBEq, Nat.reduceBNe, reduceIte, reduceDIte, reduceCtorEq]
    exact hz

def tab38 (B : Base) : Tab := { types := [(3, (.int .i64)), (4, .bool), (61, (.slice (.int .u32))), (63, (.st (.pair .bool (.slice (.int .u32))))), (89, (.int .u32))], elems := [], cons := [(49, cSmall), (50, cCmp), (60, cBack)], hint := [], N := 33, base := B }
theorem good38 {B : Base} (hB : Tabs B) : MGood Tryz.prog (tab38 B) := ⟨⟨types_cons ty3 (types_cons ty4 (types_cons ty61 (types_cons ty63 (types_cons ty89 (types_nil))))), elems_nil, by simp only [tab38, ioB]; omega⟩, cons_ok (cals_cons (cal_ok Tryz.func49 (by kernel_rfl) rfl (valid37 hB)) (cals_cons (cal_ok Tryz.func50 (by kernel_rfl) rfl (valid34 hB)) (cals_cons (cal_ok Tryz.func60 (by kernel_rfl) rfl (valid61 hB)) (cals_nil)))), by kernel_rfl⟩
def cInt : Con := fun l os => match l, os with
  | [.z (.st (.pair .bool (.slice (.int .u32)))) x], [] => some (WOK x ∧ x.2.length + 3 < CAP, [.z (.int .i64) (if inI64 (dec x) = true then dec x else 0), .z .bool (inI64 (dec x))], [])
  | _, _ => none

theorem valid38 {B : Base} (hB : Tabs B) : Valid B Tryz.prog 32 cInt := by
  refine valid_of_J (T := tab38 B) (good38 hB).tab Tryz.func32 rfl rfl rfl ?_
  intro args os C rs os' hc hC
  unfold cInt at hc
  split at hc
  case h_2 => cases hc
  rename_i x
  cases hc
  refine ⟨by simp only [List.length_cons, List.length_nil, tab38]; omega, rfl, ?_⟩
  intro X hP hT hr
  have hG : MGood X.P X.T := by rw [hP, hT]; exact good38 hB
  unfold tab38 at hT
  have hX := And.intro (@cSmall.eq_1) <| And.intro (@cCmp.eq_1) <| @cBack.eq_1
  simp only [Tryz.f32, argEnv, ioList, ioB]
  refine r_seq ?_
  refine q_region hG ?_ ?_ -- R0
  · trivial
  refine k_seq ?_
  refine r_seq ?_
  refine r_seq ?_
  refine q_draw hG ?_ ?_ -- R1
  · try simp only [and_true, true_and]
    have e1 := enc_small (n := -9223372036854775808) (by unfold I64; omega)
    have e2 := enc_small (n := 9223372036854775807) (by unfold I64; omega)
    have hl := hC.2
    exact ⟨by unfold I64; omega, ⟨hC.1, e1.1, by omega⟩, fun _ => by unfold I64; omega, fun h => ⟨h, hC.1, e2.1, by omega⟩, fun h => h, fun h => by rw [h]; rfl⟩
  refine k_seq ?_
  refine q_cond ?_ ?_
  · intro hb0
    rw [inI64_cond] at hb0
    simp only [Bool.not_eq_true'] at hb0
    refine r_seq ?_
    refine q_region hG ?_ ?_ -- R2
    · trivial
    refine k_seq ?_
    refine r_ret ?_
    refine k_seq_ret ?_
    refine ⟨[], ?_⟩
    simp only [hT, tab38, mr0, mr1, mr2, Nat.reduceLT, Nat.reduceEqDiff, Nat.reduceAdd, Nat.reduceMul, Nat.reduceSub, Nat.reduceLeDiff, Nat.reduceBEq, Nat.reduceBNe, reduceIte, reduceDIte, reduceCtorEq]
    rw [if_neg (by rw [hb0]; decide), hb0]; exact ⟨rfl, rfl⟩
  · intro hb0
    rw [inI64_cond] at hb0
    simp only [Bool.not_eq_false'] at hb0
    refine r_skip ?_
    refine k_seq ?_
    refine r_seq ?_
    refine q_region hG ?_ ?_ -- R3
    · trivial
    refine k_seq ?_
    refine r_seq ?_
    refine r_seq ?_
    refine q_region hG ?_ ?_ -- R4
    · trivial
    refine k_seq ?_
    refine j_block ?_
    refine j_range hr (gf := 82) (caps := [.z (.ptr (.slice (.int .u32))) x.2]) (items := backItems x.2) (by simp only [hT, tab38, mx0, mx1, mx2, mx3, mx4, mx5, effOp, endCall, callOp, appendOp, sliceLV, Ty.fieldTy, Ty.fieldOf, Nat.reduceLT, Nat.reduceEqDiff, Nat.reduceAdd, Nat.reduceMul, Nat.reduceSub, Nat.reduceLeDiff, Nat.reduceBEq, Nat.reduceBNe, reduceIte, reduceDIte, reduceCtorEq]; try rfl) (by rfl) (by rw [hP]; exact seq_back x.2) (by rfl) [1, 4] (by rfl) (by simp only [hT, tab38]; try rfl) (fun (k : Nat) (z : Int) => (⟨[(1, .l (.z (.ptr (.st (.pair .bool (.slice (.int .u32))))) x)), (4, .l (.ownP 4 0))], [(4, .box 3 [.z (.int .i64) z])]⟩ : AState)) (fun (k : Nat) (z : Int) => z = - valL (List.drop (List.length x.2 - k) x.2)) 0 ?_ ?_ ?_ ?_ ?_
    · simp only [ml0, ml1, Nat.reduceLT, Nat.reduceEqDiff, Nat.reduceAdd, Nat.reduceMul, Nat.reduceSub, Nat.reduceLeDiff, Nat.reduceBEq, Nat.reduceBNe, reduceIte, reduceDIte, reduceCtorEq]
    · rw [drop_all]; rfl
    · intro k z; rfl
    · intro k hk
      rintro z hz
      try dsimp only at hz
      have hk : k < List.length x.2 := by simpa [backItems] using hk
      refine ⟨_, by simp only [hT, tab38, backItems, backItem, mx0, mx1, mx2, mx3, mx4, mx5, effOp, endCall, callOp, appendOp, sliceLV, Ty.fieldTy, Ty.fieldOf, Nat.reduceLT, Nat.reduceEqDiff, Nat.reduceAdd, Nat.reduceMul, Nat.reduceSub, Nat.reduceLeDiff, Nat.reduceBEq, Nat.reduceBNe, reduceIte, reduceDIte, reduceCtorEq, List.getElem_map, List.getElem_range]; rfl, ?_⟩
      intro X' hP' hT'
      have hG' : MGood X'.P X'.T := by rw [hP', hT']; exact hG.keep _
      rw [hT] at hT'
      refine j_block ?_
      refine q_region' hG' ?_ ?_ -- R6
      · trivial
      refine k_block ?_
      show ∃ z, _
      simp only [ml0, ml1, Nat.reduceLT, Nat.reduceEqDiff, Nat.reduceAdd, Nat.reduceMul, Nat.reduceSub, Nat.reduceLeDiff, Nat.reduceBEq, Nat.reduceBNe, reduceIte, reduceDIte, reduceCtorEq]
      exact int_round hC.1 hb0 hk hz
    · rintro z hz
      try dsimp only at hz
      rw [show List.length (backItems x.2) = List.length x.2 by simp [backItems], Nat.sub_self, List.drop_zero] at hz
      refine k_block ?_
      refine k_seq ?_
      refine r_cut (fun (z : Int) => (⟨[(4, .l (.ownP 4 0))], [(4, .box 3 [.z (.int .i64) z])]⟩ : AState)) (fun z => z = dec x) ?_ ?_
      · refine r_seq ?_
        refine q_region hG ?_ ?_ -- R7
        · trivial
        refine k_seq ?_
        refine q_cond ?_ ?_
        · intro hb1
          try simp only [decide_eq_true_eq, decide_eq_false_iff_not, beq_iff_eq, bne_iff_ne, Bool.not_eq_true', Bool.and_eq_true] at hb1
          refine q_region hG ?_ ?_ -- R8
          · trivial
          show ∃ z, _
          simp only [ml0, ml1, Nat.reduceLT, Nat.reduceEqDiff, Nat.reduceAdd, Nat.reduceMul, Nat.reduceSub, Nat.reduceLeDiff, Nat.reduceBEq, Nat.reduceBNe, reduceIte, reduceDIte, reduceCtorEq]
          first | exact (int_fin hC.1 hb0 hz).1 hb1 | exact (int_fin hC.1 hb0 hz).2 hb1
        · intro hb1
          try simp only [decide_eq_true_eq, decide_eq_false_iff_not, beq_eq_false_iff_ne, bne_eq_false_iff_eq, Bool.not_eq_false', Bool.and_eq_false_imp] at hb1
          refine r_skip ?_
          show ∃ z, _
          simp only [ml0, ml1, Nat.reduceLT, Nat.reduceEqDiff, Nat.reduceAdd, Nat.reduceMul, Nat.reduceSub, Nat.reduceLeDiff, Nat.reduceBEq, Nat.reduceBNe, reduceIte, reduceDIte, reduceCtorEq]
          first | exact (int_fin hC.1 hb0 hz).1 hb1 | exact (int_fin hC.1 hb0 hz).2 hb1
      rintro z2 hz2
      try dsimp only at hz2
      refine r_seq ?_
      refine q_region hG ?_ ?_ -- R9
      · trivial
      refine k_seq ?_
      refine r_ret ?_
      refine ⟨[], ?_⟩
      simp only [hT, tab38, mr0, mr1, mr2, Nat.reduceLT, Nat.reduceEqDiff, Nat.reduceAdd, Nat.reduceMul, Nat.reduceSub, Nat.reduceLeDiff, Nat.reduceBEq, Nat.reduceBNe, reduceIte, reduceDIte, reduceCtorEq]
      rw [if_pos hb0, hb0]; exact ⟨hz2, rfl⟩

end Go.Proofs.YtkgbdpmhdplddaaGreatDoor
end

section
/- The functions of the package exact, one after the other: each meets its contract. -/
set_option linter.unusedSimpArgs false
set_option linter.unusedVariables false
set_option maxRecDepth 100000
namespace Go.Proofs.YtkgbdpmhdplddaaGreatDoor
open Go Go.Cm Go.Proofs

def tab30 (B : Base) : Tab := { types := [(3, (.int .i64)), (9, .str), (29, (.int .i64)), (57, (.slice (.st (.pair .bool (.slice (.int .u32)))))), (84, (.slice .str))], elems := [(57, 63)], cons := [(9, cCheck), (59, cRead)], hint := [], N := 26, base := B }
theorem good30 {B : Base} (hB : Tabs B) : MGood Tryz.prog (tab30 B) := ⟨⟨types_cons ty3 (types_cons ty9 (types_cons ty29 (types_cons ty57 (types_cons ty84 (types_nil))))), elems_cons (by kernel_rfl) (elems_nil), by simp only [tab30, ioB]; omega⟩, cons_ok (cals_cons (cal_ok Tryz.func9 (by kernel_rfl) rfl (valid20 hB)) (cals_cons (cal_ok Tryz.func59 (by kernel_rfl) rfl (valid54 hB)) (cals_nil))), by kernel_rfl⟩
def cReads : Con := fun l os => match l, os with
  | [.z (.slice .str) l], [] => some (Shorts l, [.z (.slice (.st (.pair .bool (.slice (.int .u32))))) (readAll l), .z (.int .i64) (chkAll l)], [])
  | _, _ => none

theorem valid30 {B : Base} (hB : Tabs B) : Valid B Tryz.prog 31 cReads := by
  refine valid_of_J (T := tab30 B) (good30 hB).tab Tryz.func31 rfl rfl rfl ?_
  intro args os C rs os' hc hC
  unfold cReads at hc
  split at hc
  case h_2 => cases hc
  rename_i l
  cases hc
  refine ⟨by simp only [List.length_cons, List.length_nil, tab30]; omega, rfl, ?_⟩
  intro X hP hT hr
  have hG : MGood X.P X.T := by rw [hP, hT]; exact good30 hB
  unfold tab30 at hT
  have hX := And.intro (@cCheck.eq_1) <| @cRead.eq_1
  simp only [Tryz.f31, argEnv, ioList, ioB]
  refine r_seq ?_
  refine q_region hG ?_ ?_ -- R0
  · trivial
  refine k_seq ?_
  refine r_seq ?_
  refine q_region hG ?_ ?_ -- R1
  · trivial
  refine k_seq ?_
  refine r_seq ?_
  refine r_seq ?_
  refine q_region hG ?_ ?_ -- R2
  · trivial
  refine k_seq ?_
  refine j_block ?_
  refine j_loop (fun (z : Nat × List (Bool × List Int)) => (⟨[(4, .l (.ownS 23)), (8, .l (.z (.slice .str) l)), (9, .l (.z (.int .i64) (List.length l : Int))), (10, .l (.z (.int .i64) (z.1 : Int)))], [(23, .arr (.st (.pair .bool (.slice (.int .u32)))) 63 z.2)]⟩ : AState)) (fun z => ReadsPhi l z.1 z.2) (fun z => List.length l - z.1) (0, []) ?_ ?_ ?_
  · simp only [ml0, ml1, Nat.reduceLT, Nat.reduceEqDiff, Nat.reduceAdd, Nat.reduceMul, Nat.reduceSub, Nat.reduceLeDiff, Nat.reduceBEq, Nat.reduceBNe, reduceIte, reduceDIte, reduceCtorEq]
    exact ⟨rfl, by unfold ioB; omega⟩
  · exact reads_start
  · rintro ⟨k, out⟩ hz
    try dsimp only at hz
    refine r_seq ?_
    refine q_region hG ?_ ?_ -- R3
    · trivial
    refine k_seq ?_
    refine r_seq ?_
    refine q_cond ?_ ?_
    · intro hb0
      try simp only [decide_eq_true_eq, decide_eq_false_iff_not, beq_iff_eq, bne_iff_ne, Bool.not_eq_true', Bool.and_eq_true] at hb0
      refine r_skip ?_
      refine k_seq ?_
      refine r_seq ?_
      refine j_block ?_
      refine r_seq ?_
      refine q_region hG ?_ ?_ -- R4
      · try simp only [and_true, true_and]
        exact ⟨by omega, hb0⟩
      refine k_seq ?_
      refine r_seq ?_
      refine r_seq ?_
      refine q_region hG ?_ ?_ -- R5
      · try simp only [and_true, true_and]
        exact reads_short hC hb0
      refine k_seq ?_
      refine r_seq ?_
      refine q_region hG ?_ ?_ -- R6
      · trivial
      refine k_seq ?_
      refine q_cond ?_ ?_
      · intro hb1
        try simp only [decide_eq_true_eq, decide_eq_false_iff_not, beq_iff_eq, bne_iff_ne, Bool.not_eq_true', Bool.and_eq_true] at hb1
        refine r_seq ?_
        refine q_region hG ?_ ?_ -- R7
        · trivial
        refine k_seq ?_
        refine r_ret ?_
        refine k_seq_ret ?_
        refine k_block_ret ?_
        refine k_seq_ret ?_
        refine k_round_ret ?_
        refine k_block_ret ?_
        refine k_seq_ret ?_
        refine ⟨[23], ?_⟩
        simp only [hT, tab30, mr0, mr1, mr2, Nat.reduceLT, Nat.reduceEqDiff, Nat.reduceAdd, Nat.reduceMul, Nat.reduceSub, Nat.reduceLeDiff, Nat.reduceBEq, Nat.reduceBNe, reduceIte, reduceDIte, reduceCtorEq]
        exact reads_bad hz hb0 hb1
      · intro hb1
        try simp only [decide_eq_true_eq, decide_eq_false_iff_not, beq_eq_false_iff_ne, bne_eq_false_iff_eq, Bool.not_eq_false', Bool.and_eq_false_imp] at hb1
        refine r_skip ?_
        refine k_seq ?_
        refine q_region hG ?_ ?_ -- R8
        · try simp only [and_true, true_and]
          have hl := congrArg List.length hz.2.2
          simp only [List.length_map, List.length_take] at hl
          have hc : List.length l < 1000000000000 := hC.1
          exact ⟨hb1, by unfold Cm.Roomy; omega⟩
        refine k_block ?_
        refine k_seq ?_
        refine q_region hG ?_ ?_ -- R9
        · trivial
        show ∃ z, _
        simp only [ml0, ml1, Nat.reduceLT, Nat.reduceEqDiff, Nat.reduceAdd, Nat.reduceMul, Nat.reduceSub, Nat.reduceLeDiff, Nat.reduceBEq, Nat.reduceBNe, reduceIte, reduceDIte, reduceCtorEq]
        exact reads_next hC hz hb0 hb1
    · intro hb0
      try simp only [decide_eq_true_eq, decide_eq_false_iff_not, beq_eq_false_iff_ne, bne_eq_false_iff_eq, Bool.not_eq_false', Bool.and_eq_false_imp] at hb0
      refine r_exit ?_
      refine k_seq_exit ?_
      refine k_round_exit ?_
      refine k_block_exit ?_
      refine k_seq ?_
      refine r_seq ?_
      refine q_region hG ?_ ?_ -- R10
      · trivial
      refine k_seq ?_
      refine r_ret ?_
      refine ⟨[23], ?_⟩
      simp only [hT, tab30, mr0, mr1, mr2, Nat.reduceLT, Nat.reduceEqDiff, Nat.reduceAdd, Nat.reduceMul, Nat.reduceSub, Nat.reduceLeDiff, Nat.reduceBEq, Nat.reduceBNe, reduceIte, reduceDIte, reduceCtorEq]
      exact reads_end hz hb0

end Go.Proofs.YtkgbdpmhdplddaaGreatDoor
end

section
/- The functions of the package exact, one after the other: each meets its contract. -/
set_option linter.unusedSimpArgs false
set_option linter.unusedVariables false
set_option maxRecDepth 100000
namespace Go.Proofs.YtkgbdpmhdplddaaGreatDoor
open Go Go.Cm Go.Proofs

def tab19 (B : Base) : Tab := { types := [(29, (.int .i64)), (57, (.slice (.st (.pair .bool (.slice (.int .u32)))))), (63, (.st (.pair .bool (.slice (.int .u32))))), (84, (.slice .str))], elems := [(84, 9)], cons := [(31, cReads), (32, cInt)], hint := [], N := 27, base := B }
theorem good19 {B : Base} (hB : Tabs B) : MGood Tryz.prog (tab19 B) := ⟨⟨types_cons ty29 (types_cons ty57 (types_cons ty63 (types_cons ty84 (types_nil)))), elems_cons (by kernel_rfl) (elems_nil), by simp only [tab19, ioB]; omega⟩, cons_ok (cals_cons (cal_ok Tryz.func31 (by kernel_rfl) rfl (valid30 hB)) (cals_cons (cal_ok Tryz.func32 (by kernel_rfl) rfl (valid38 hB)) (cals_nil))), by kernel_rfl⟩
def cIntT : Con := fun l os => match l, os with
  | [.z .str s], [] => some (Short s, [.z (.int .i64) (intV s), .z (.int .i64) (intE s)], [])
  | _, _ => none

theorem valid19 {B : Base} (hB : Tabs B) : Valid B Tryz.prog 11 cIntT := by
  refine valid_of_J (T := tab19 B) (good19 hB).tab Tryz.func11 rfl rfl rfl ?_
  intro args os C rs os' hc hC
  unfold cIntT at hc
  split at hc
  case h_2 => cases hc
  rename_i s
  cases hc
  refine ⟨by simp only [List.length_cons, List.length_nil, tab19]; omega, rfl, ?_⟩
  intro X hP hT hr
  have hG : MGood X.P X.T := by rw [hP, hT]; exact good19 hB
  unfold tab19 at hT
  have hX := And.intro (@cReads.eq_1) <| @cInt.eq_1
  simp only [Tryz.f11, argEnv, ioList, ioB]
  refine r_seq ?_
  refine q_region hG ?_ ?_ -- R0
  · trivial
  refine k_seq ?_
  refine r_seq ?_
  refine q_region hG ?_ ?_ -- R1
  · try simp only [and_true, true_and]
    exact shorts1 hC
  refine k_seq ?_
  refine r_seq ?_
  refine r_seq ?_
  refine q_region hG ?_ ?_ -- R2
  · trivial
  refine k_seq ?_
  refine q_cond ?_ ?_
  · intro hb0
    try simp only [decide_eq_true_eq, decide_eq_false_iff_not, beq_iff_eq, bne_iff_ne, Bool.not_eq_true', Bool.and_eq_true] at hb0
    refine r_seq ?_
    refine q_region hG ?_ ?_ -- R3
    · trivial
    refine k_seq ?_
    refine r_ret ?_
    refine k_seq_ret ?_
    refine ⟨[], ?_⟩
    simp only [hT, tab19, mr0, mr1, mr2, Nat.reduceLT, Nat.reduceEqDiff, Nat.reduceAdd, Nat.reduceMul, Nat.reduceSub, Nat.reduceLeDiff, Nat.reduceBEq, Nat.reduceBNe, reduceIte, reduceDIte, reduceCtorEq]
    exact int_bad hb0
  · intro hb0
    try simp only [decide_eq_true_eq, decide_eq_false_iff_not, beq_eq_false_iff_ne, bne_eq_false_iff_eq, Bool.not_eq_false', Bool.and_eq_false_imp] at hb0
    refine r_skip ?_
    refine k_seq ?_
    refine r_seq ?_
    refine q_region hG ?_ ?_ -- R4
    · try simp only [and_true, true_and]
      obtain ⟨r1, r2, r3, r4⟩ := read1 hb0
      exact ⟨⟨by omega, r2⟩, by rw [r3]; exact enc_ok _, by rw [r3]; unfold CAP; omega⟩
    refine k_seq ?_
    refine r_seq ?_
    refine r_seq ?_
    refine q_region hG ?_ ?_ -- R5
    · trivial
    refine k_seq ?_
    refine q_cond ?_ ?_
    · intro hb1
      try simp only [decide_eq_true_eq, decide_eq_false_iff_not, beq_iff_eq, bne_iff_ne, Bool.not_eq_true', Bool.and_eq_true] at hb1
      refine r_seq ?_
      refine q_region hG ?_ ?_ -- R6
      · trivial
      refine k_seq ?_
      refine r_ret ?_
      refine k_seq_ret ?_
      refine ⟨[], ?_⟩
      simp only [hT, tab19, mr0, mr1, mr2, Nat.reduceLT, Nat.reduceEqDiff, Nat.reduceAdd, Nat.reduceMul, Nat.reduceSub, Nat.reduceLeDiff, Nat.reduceBEq, Nat.reduceBNe, reduceIte, reduceDIte, reduceCtorEq]
      exact int_big hb0 hb1
    · intro hb1
      try simp only [decide_eq_true_eq, decide_eq_false_iff_not, beq_eq_false_iff_ne, bne_eq_false_iff_eq, Bool.not_eq_false', Bool.and_eq_false_imp] at hb1
      refine r_skip ?_
      refine k_seq ?_
      refine r_seq ?_
      refine q_region hG ?_ ?_ -- R7
      · trivial
      refine k_seq ?_
      refine r_ret ?_
      refine ⟨[], ?_⟩
      simp only [hT, tab19, mr0, mr1, mr2, Nat.reduceLT, Nat.reduceEqDiff, Nat.reduceAdd, Nat.reduceMul, Nat.reduceSub, Nat.reduceLeDiff, Nat.reduceBEq, Nat.reduceBNe, reduceIte, reduceDIte, reduceCtorEq]
      exact int_ok hb0 hb1

def tab15 (B : Base) : Tab := { types := [(29, (.int .i64)), (57, (.slice (.st (.pair .bool (.slice (.int .u32)))))), (63, (.st (.pair .bool (.slice (.int .u32))))), (84, (.slice .str))], elems := [(84, 9)], cons := [(31, cReads), (50, cCmp)], hint := [], N := 25, base := B }
theorem good15 {B : Base} (hB : Tabs B) : MGood Tryz.prog (tab15 B) := ⟨⟨types_cons ty29 (types_cons ty57 (types_cons ty63 (types_cons ty84 (types_nil)))), elems_cons (by kernel_rfl) (elems_nil), by simp only [tab15, ioB]; omega⟩, cons_ok (cals_cons (cal_ok Tryz.func31 (by kernel_rfl) rfl (valid30 hB)) (cals_cons (cal_ok Tryz.func50 (by kernel_rfl) rfl (valid34 hB)) (cals_nil))), by kernel_rfl⟩
def cCmpT : Con := fun l os => match l, os with
  | [.z .str a, .z .str b], [] => some (Short a ∧ Short b, [.z (.int .i64) (cmpV a b), .z (.int .i64) (chkAll [a, b])], [])
  | _, _ => none

theorem valid15 {B : Base} (hB : Tabs B) : Valid B Tryz.prog 22 cCmpT := by
  refine valid_of_J (T := tab15 B) (good15 hB).tab Tryz.func22 rfl rfl rfl ?_
  intro args os C rs os' hc hC
  unfold cCmpT at hc
  split at hc
  case h_2 => cases hc
  rename_i a b
  cases hc
  refine ⟨by simp only [List.length_cons, List.length_nil, tab15]; omega, rfl, ?_⟩
  intro X hP hT hr
  have hG : MGood X.P X.T := by rw [hP, hT]; exact good15 hB
  unfold tab15 at hT
  have hX := And.intro (@cReads.eq_1) <| @cCmp.eq_1
  simp only [Tryz.f22, argEnv, ioList, ioB]
  refine r_seq ?_
  refine q_region hG ?_ ?_ -- R0
  · trivial
  refine k_seq ?_
  refine r_seq ?_
  refine q_region hG ?_ ?_ -- R1
  · try simp only [and_true, true_and]
    exact shorts2 hC
  refine k_seq ?_
  refine r_seq ?_
  refine r_seq ?_
  refine q_region hG ?_ ?_ -- R2
  · trivial
  refine k_seq ?_
  refine q_cond ?_ ?_
  · intro hb0
    try simp only [decide_eq_true_eq, decide_eq_false_iff_not, beq_iff_eq, bne_iff_ne, Bool.not_eq_true', Bool.and_eq_true] at hb0
    refine r_seq ?_
    refine q_region hG ?_ ?_ -- R3
    · trivial
    refine k_seq ?_
    refine r_ret ?_
    refine k_seq_ret ?_
    refine ⟨[], ?_⟩
    simp only [hT, tab15, mr0, mr1, mr2, Nat.reduceLT, Nat.reduceEqDiff, Nat.reduceAdd, Nat.reduceMul, Nat.reduceSub, Nat.reduceLeDiff, Nat.reduceBEq, Nat.reduceBNe, reduceIte, reduceDIte, reduceCtorEq]
    exact cmp_bad hb0
  · intro hb0
    try simp only [decide_eq_true_eq, decide_eq_false_iff_not, beq_eq_false_iff_ne, bne_eq_false_iff_eq, Bool.not_eq_false', Bool.and_eq_false_imp] at hb0
    refine r_skip ?_
    refine k_seq ?_
    refine r_seq ?_
    refine q_draw hG ?_ ?_ -- R4
    · try simp only [and_true, true_and]
      exact cmp_side hb0
    refine k_seq ?_
    refine r_ret ?_
    refine ⟨[], ?_⟩
    simp only [hT, tab15, mr0, mr1, mr2, Nat.reduceLT, Nat.reduceEqDiff, Nat.reduceAdd, Nat.reduceMul, Nat.reduceSub, Nat.reduceLeDiff, Nat.reduceBEq, Nat.reduceBNe, reduceIte, reduceDIte, reduceCtorEq]
    exact cmp_ok hb0

end Go.Proofs.YtkgbdpmhdplddaaGreatDoor
end

section
/- The functions of the package exact, one after the other: each meets its contract. -/
set_option linter.unusedSimpArgs false
set_option linter.unusedVariables false
set_option maxRecDepth 100000
namespace Go.Proofs.YtkgbdpmhdplddaaGreatDoor
open Go Go.Cm Go.Proofs

def tab68 (B : Base) : Tab := { types := [(61, (.slice (.int .u32))), (89, (.int .u32)), (91, (.int .u64))], elems := [(61, 89)], cons := [(60, cBack)], hint := [], N := 38, base := B }
theorem good68 {B : Base} (hB : Tabs B) : MGood Tryz.prog (tab68 B) := ⟨⟨types_cons ty61 (types_cons ty89 (types_cons ty91 (types_nil))), elems_cons (by kernel_rfl) (elems_nil), by simp only [tab68, ioB]; omega⟩, cons_ok (cals_cons (cal_ok Tryz.func60 (by kernel_rfl) rfl (valid61 hB)) (cals_nil)), by kernel_rfl⟩
def cShort : Con := fun l os => match l, os with
  | [.z (.slice (.int .u32)) m, .z (.int .u32) b], [] => some (Lim m ∧ Dig1 b ∧ m.length < CAP, [.z (.slice (.int .u32)) (padL (valL m / b).toNat m.length), .z (.int .u32) (valL m % b)], [])
  | _, _ => none

theorem valid68 {B : Base} (hB : Tabs B) : Valid B Tryz.prog 83 cShort := by
  refine valid_of_J (T := tab68 B) (good68 hB).tab Tryz.func83 rfl rfl rfl ?_
  intro args os C rs os' hc hC
  unfold cShort at hc
  split at hc
  case h_2 => cases hc
  rename_i m b
  cases hc
  refine ⟨by simp only [List.length_cons, List.length_nil, tab68]; omega, rfl, ?_⟩
  intro X hP hT hr
  have hG : MGood X.P X.T := by rw [hP, hT]; exact good68 hB
  unfold tab68 at hT
  have hX := @cBack.eq_1
  simp only [Tryz.f83, argEnv, ioList, ioB]
  refine r_seq ?_
  refine q_region hG ?_ ?_ -- R0
  · trivial
  refine k_seq ?_
  refine r_seq ?_
  refine q_region hG ?_ ?_ -- R1
  · try simp only [and_true, true_and]
    exact ⟨by omega, by omega, by have := hC.2.2; unfold CAP at this; unfold Cm.Roomy; omega⟩
  refine k_seq ?_
  refine r_seq ?_
  refine q_region hG ?_ ?_ -- R2
  · trivial
  refine k_seq ?_
  refine r_seq ?_
  refine r_seq ?_
  refine q_region hG ?_ ?_ -- R3
  · trivial
  refine k_seq ?_
  refine j_block ?_
  refine j_range hr (gf := 82) (caps := [.z (.ptr (.slice (.int .u32))) m]) (items := backItems m) (by simp only [hT, tab68, mx0, mx1, mx2, mx3, mx4, mx5, effOp, endCall, callOp, appendOp, sliceLV, Ty.fieldTy, Ty.fieldOf, Nat.reduceLT, Nat.reduceEqDiff, Nat.reduceAdd, Nat.reduceMul, Nat.reduceSub, Nat.reduceLeDiff, Nat.reduceBEq, Nat.reduceBNe, reduceIte, reduceDIte, reduceCtorEq]; try rfl) (by rfl) (by rw [hP]; exact seq_back m) (by rfl) [3, 6, 7] (by rfl) (by simp only [hT, tab68]; try rfl) (fun (k : Nat) (z : Int × List Int) => (⟨[(3, .l (.z (.ptr (.int .u32)) b)), (6, .l (.ownP 6 0)), (7, .l (.ownP 7 0))], [(6, .box 61 [.ownS 13]), (7, .box 91 [.z (.int .u64) z.1]), (13, .arr (.int .u32) 89 z.2)]⟩ : AState)) (fun (k : Nat) (z : Int × List Int) => ShortPhi m b k z.1 z.2) (0, List.replicate (List.length m) 0) ?_ ?_ ?_ ?_ ?_
  · simp only [ml0, ml1, Nat.reduceLT, Nat.reduceEqDiff, Nat.reduceAdd, Nat.reduceMul, Nat.reduceSub, Nat.reduceLeDiff, Nat.reduceBEq, Nat.reduceBNe, reduceIte, reduceDIte, reduceCtorEq]
    simp
  · exact short_start hC.2.1
  · intro k z; rfl
  · intro k hk
    rintro ⟨r, out⟩ hz
    try dsimp only at hz
    have hk : k < List.length m := by simpa [backItems] using hk
    refine ⟨_, by simp only [hT, tab68, backItems, backItem, mx0, mx1, mx2, mx3, mx4, mx5, effOp, endCall, callOp, appendOp, sliceLV, Ty.fieldTy, Ty.fieldOf, Nat.reduceLT, Nat.reduceEqDiff, Nat.reduceAdd, Nat.reduceMul, Nat.reduceSub, Nat.reduceLeDiff, Nat.reduceBEq, Nat.reduceBNe, reduceIte, reduceDIte, reduceCtorEq, List.getElem_map, List.getElem_range]; rfl, ?_⟩
    intro X' hP' hT'
    have hG' : MGood X'.P X'.T := by rw [hP', hT']; exact hG.keep _
    rw [hT] at hT'
    refine j_block ?_
    refine r_seq ?_
    refine q_region' hG' ?_ ?_ -- R6
    · trivial
    refine k_seq ?_
    refine q_draw' hG' ?_ ?_ -- R7
    · try simp only [and_true, true_and]
      have hl := hz.1
      exact ⟨dig1_ne hC.2.1, dig1_ne hC.2.1, by omega, by omega⟩
    refine k_block ?_
    show ∃ z, _
    simp only [ml0, ml1, Nat.reduceLT, Nat.reduceEqDiff, Nat.reduceAdd, Nat.reduceMul, Nat.reduceSub, Nat.reduceLeDiff, Nat.reduceBEq, Nat.reduceBNe, reduceIte, reduceDIte, reduceCtorEq]
    exact short_next hC.1 hC.2.1 hk hz
  · rintro ⟨r, out⟩ hz
    try dsimp only at hz
    rw [show List.length (backItems m) = List.length m by simp [backItems]] at hz
    refine k_block ?_
    refine k_seq ?_
    refine r_seq ?_
    refine q_draw hG ?_ ?_ -- R8
    · trivial
    refine k_seq ?_
    refine r_ret ?_
    refine ⟨[13], ?_⟩
    simp only [hT, tab68, mr0, mr1, mr2, Nat.reduceLT, Nat.reduceEqDiff, Nat.reduceAdd, Nat.reduceMul, Nat.reduceSub, Nat.reduceLeDiff, Nat.reduceBEq, Nat.reduceBNe, reduceIte, reduceDIte, reduceCtorEq]
    exact short_end hC.1 hC.2.1 hz

def tab69 (B : Base) : Tab := { types := [(3, (.int .i64)), (61, (.slice (.int .u32))), (89, (.int .u32)), (91, (.int .u64))], elems := [(61, 89)], cons := [], hint := [], N := 41, base := B }
theorem good69 {B : Base} (hB : Tabs B) : MGood Tryz.prog (tab69 B) := ⟨⟨types_cons ty3 (types_cons ty61 (types_cons ty89 (types_cons ty91 (types_nil)))), elems_cons (by kernel_rfl) (elems_nil), by simp only [tab69, ioB]; omega⟩, cons_nil rfl, by kernel_rfl⟩
def cScaled : Con := fun l os => match l, os with
  | [.z (.slice (.int .u32)) m, .z (.int .u32) b], [] => some (Lim m ∧ Dig0 b ∧ m.length < CAP, [.own (.int .u32) 89 (padL (valL m * b).toNat (m.length + 1))], [])
  | _, _ => none

theorem valid69 {B : Base} (hB : Tabs B) : Valid B Tryz.prog 84 cScaled := by
  refine valid_of_J (T := tab69 B) (good69 hB).tab Tryz.func84 rfl rfl rfl ?_
  intro args os C rs os' hc hC
  unfold cScaled at hc
  split at hc
  case h_2 => cases hc
  rename_i m b
  cases hc
  refine ⟨by simp only [List.length_cons, List.length_nil, tab69]; omega, rfl, ?_⟩
  intro X hP hT hr
  have hG : MGood X.P X.T := by rw [hP, hT]; exact good69 hB
  unfold tab69 at hT
  have hX := Bool.not_true
  simp only [Tryz.f84, argEnv, ioList, ioB]
  refine r_seq ?_
  refine q_region hG ?_ ?_ -- R0
  · trivial
  refine k_seq ?_
  refine r_seq ?_
  refine q_region hG ?_ ?_ -- R1
  · try simp only [and_true, true_and]
    have h1 : List.length m < 1000000000000 := hC.2.2
    rw [wi (by omega) (by omega)]
    exact ⟨by omega, by omega, by unfold Cm.Roomy; omega⟩
  refine k_seq ?_
  refine r_seq ?_
  refine q_region hG ?_ ?_ -- R2
  · trivial
  refine k_seq ?_
  refine r_seq ?_
  refine r_seq ?_
  refine q_region hG ?_ ?_ -- R3
  · trivial
  refine k_seq ?_
  refine j_block ?_
  refine j_loop (fun (z : Nat × Int × List Int) => (⟨[(1, .l (.z (.int .u32) b)), (5, .l (.ownS 13)), (6, .l (.z (.int .u64) z.2.1)), (14, .l (.z (.slice (.int .u32)) m)), (15, .l (.z (.int .i64) (List.length m : Int))), (16, .l (.z (.int .i64) (z.1 : Int)))], [(13, .arr (.int .u32) 89 z.2.2)]⟩ : AState)) (fun z => ScaledPhi m b z.1 z.2.1 z.2.2) (fun z => List.length m - z.1) (0, 0, []) ?_ ?_ ?_
  · simp only [ml0, ml1, Nat.reduceLT, Nat.reduceEqDiff, Nat.reduceAdd, Nat.reduceMul, Nat.reduceSub, Nat.reduceLeDiff, Nat.reduceBEq, Nat.reduceBNe, reduceIte, reduceDIte, reduceCtorEq]
    exact ⟨rfl, rfl⟩
  · exact scaled_start
  · rintro ⟨k, c, out⟩ hz
    try dsimp only at hz
    refine r_seq ?_
    refine q_region hG ?_ ?_ -- R4
    · trivial
    refine k_seq ?_
    refine r_seq ?_
    refine q_cond ?_ ?_
    · intro hb0
      try simp only [decide_eq_true_eq, decide_eq_false_iff_not, beq_iff_eq, bne_iff_ne, Bool.not_eq_true', Bool.and_eq_true] at hb0
      refine r_skip ?_
      refine k_seq ?_
      refine r_seq ?_
      refine j_block ?_
      refine r_seq ?_
      refine q_region hG ?_ ?_ -- R5
      · try simp only [and_true, true_and]
        exact ⟨by omega, hb0⟩
      refine k_seq ?_
      refine r_seq ?_
      refine q_region hG ?_ ?_ -- R6
      · trivial
      refine k_seq ?_
      refine q_region hG ?_ ?_ -- R7
      · try simp only [and_true, true_and]
        have h1 : List.length m < 1000000000000 := hC.2.2
        have h2 := hz.2.1
        exact ⟨by decide, by unfold Cm.Roomy; omega, by decide⟩
      refine k_block ?_
      refine k_seq ?_
      refine q_region hG ?_ ?_ -- R8
      · trivial
      show ∃ z, _
      simp only [ml0, ml1, Nat.reduceLT, Nat.reduceEqDiff, Nat.reduceAdd, Nat.reduceMul, Nat.reduceSub, Nat.reduceLeDiff, Nat.reduceBEq, Nat.reduceBNe, reduceIte, reduceDIte, reduceCtorEq]
      exact scaled_next hC.1 hC.2.2 hC.2.1 hb0 hz
    · intro hb0
      try simp only [decide_eq_true_eq, decide_eq_false_iff_not, beq_eq_false_iff_ne, bne_eq_false_iff_eq, Bool.not_eq_false', Bool.and_eq_false_imp] at hb0
      refine r_exit ?_
      refine k_seq_exit ?_
      refine k_round_exit ?_
      refine k_block_exit ?_
      refine k_seq ?_
      refine r_seq ?_
      refine q_region hG ?_ ?_ -- R9
      · try simp only [and_true, true_and]
        have h1 : List.length m < 1000000000000 := hC.2.2
        have h2 := hz.2.1
        have h3 := hz.1
        unfold Cm.Roomy; omega
      refine k_seq ?_
      refine r_ret ?_
      refine ⟨[], ?_⟩
      simp only [hT, tab69, mr0, mr1, mr2, Nat.reduceLT, Nat.reduceEqDiff, Nat.reduceAdd, Nat.reduceMul, Nat.reduceSub, Nat.reduceLeDiff, Nat.reduceBEq, Nat.reduceBNe, reduceIte, reduceDIte, reduceCtorEq]
      exact ⟨trivial, scaled_end hC.1 hC.2.1 hb0 hz⟩

end Go.Proofs.YtkgbdpmhdplddaaGreatDoor
end

section
/- The functions of the package exact, one after the other: each meets its contract. -/
set_option linter.unusedSimpArgs false
set_option linter.unusedVariables false
set_option maxRecDepth 100000
namespace Go.Proofs.YtkgbdpmhdplddaaGreatDoor
open Go Go.Cm Go.Proofs

def tab70 (B : Base) : Tab := { types := [(2, (.int .i64)), (3, (.int .i64)), (61, (.slice (.int .u32))), (89, (.int .u32)), (91, (.int .u64))], elems := [], cons := [], hint := [], N := 57, base := B }
theorem good70 {B : Base} (hB : Tabs B) : MGood Tryz.prog (tab70 B) := ⟨⟨types_cons ty2 (types_cons ty3 (types_cons ty61 (types_cons ty89 (types_cons ty91 (types_nil))))), elems_nil, by simp only [tab70, ioB]; omega⟩, cons_nil rfl, by kernel_rfl⟩
def cLose : Con := fun l os => match l, os with
  | [.ownS 10000000, .z (.slice (.int .u32)) o, .z (.int .u64) q], [.win (.int .u32) 89 pre xs []] => some (Lim xs ∧ Lim o ∧ Dig0 q ∧ o.length + 1 ≤ xs.length ∧ o.length < CAP, [.z .bool (decide (valL (xs.take (o.length + 1)) < q * valL o))], [.win (.int .u32) 89 pre (put xs (o.length + 1) (valL (xs.take (o.length + 1)) - q * valL o)) []])
  | _, _ => none

theorem valid70 {B : Base} (hB : Tabs B) : Valid B Tryz.prog 85 cLose := by
  refine valid_of_J (T := tab70 B) (good70 hB).tab Tryz.func85 rfl rfl rfl ?_
  intro args os C rs os' hc hC
  unfold cLose at hc
  split at hc
  case h_2 => cases hc
  rename_i o q pre xs
  cases hc
  refine ⟨by simp only [List.length_cons, List.length_nil, tab70]; omega, rfl, ?_⟩
  intro X hP hT hr
  have hG : MGood X.P X.T := by rw [hP, hT]; exact good70 hB
  unfold tab70 at hT
  have hX := Bool.not_true
  simp only [Tryz.f85, argEnv, ioList, ioB]
  refine r_seq ?_
  refine q_region hG ?_ ?_ -- R0
  · trivial
  refine k_seq ?_
  refine r_seq ?_
  refine q_region hG ?_ ?_ -- R1
  · trivial
  refine k_seq ?_
  refine r_seq ?_
  refine r_seq ?_
  refine q_region hG ?_ ?_ -- R2
  · trivial
  refine k_seq ?_
  refine j_block ?_
  refine j_loop (fun (z : Nat × Int × Int × List Int) => (⟨[(0, .l (.ownS 10000000)), (1, .l (.z (.slice (.int .u32)) o)), (2, .l (.z (.int .u64) q)), (7, .l (.z (.int .u64) z.2.1)), (8, .l (.z (.int .i64) z.2.2.1)), (14, .l (.z (.int .i64) ((List.length o + 1 : Nat) : Int))), (15, .l (.z (.int .i64) (z.1 : Int)))], [(10000000, .win (.int .u32) 89 pre z.2.2.2 [])]⟩ : AState)) (fun z => LosePhi xs o q z.1 z.2.1 z.2.2.1 z.2.2.2) (fun z => List.length o + 1 - z.1) (0, 0, 0, xs) ?_ ?_ ?_
  · simp only [ml0, ml1, Nat.reduceLT, Nat.reduceEqDiff, Nat.reduceAdd, Nat.reduceMul, Nat.reduceSub, Nat.reduceLeDiff, Nat.reduceBEq, Nat.reduceBNe, reduceIte, reduceDIte, reduceCtorEq]
    exact ⟨wi (by omega) (by have : List.length o < 1000000000000 := hC.2.2.2.2; omega), rfl⟩
  · exact lose_start hC.1
  · rintro ⟨i, c, b, ys⟩ hz
    try dsimp only at hz
    have hl := hz.2.1
    have hlen := hC.2.2.2.1
    refine r_seq ?_
    refine q_region hG ?_ ?_ -- R3
    · trivial
    refine k_seq ?_
    refine r_seq ?_
    refine q_cond ?_ ?_
    · intro hb0
      try simp only [decide_eq_true_eq, decide_eq_false_iff_not, beq_iff_eq, bne_iff_ne, Bool.not_eq_true', Bool.and_eq_true] at hb0
      refine r_skip ?_
      refine k_seq ?_
      refine r_seq ?_
      refine j_block ?_
      refine r_seq ?_
      refine q_region hG ?_ ?_ -- R4
      · trivial
      refine k_seq ?_
      refine r_seq ?_
      refine q_region hG ?_ ?_ -- R5
      · trivial
      refine k_seq ?_
      refine r_cut (fun (z : Int) => (⟨[(0, .l (.ownS 10000000)), (1, .l (.z (.slice (.int .u32)) o)), (2, .l (.z (.int .u64) q)), (8, .l (.z (.int .i64) b)), (9, .l (.z (.int .i64) (i : Int))), (10, .l (.z (.int .u64) z)), (14, .l (.z (.int .i64) ((List.length o + 1 : Nat) : Int))), (15, .l (.z (.int .i64) (i : Int)))], [(10000000, .win (.int .u32) 89 pre ys [])]⟩ : AState)) (fun z => z = c + q * o.getD i 0) ?_ ?_
      · refine r_seq ?_
        refine q_region hG ?_ ?_ -- R6
        · trivial
        refine k_seq ?_
        refine q_cond ?_ ?_
        · intro hb1
          try simp only [decide_eq_true_eq, decide_eq_false_iff_not, beq_iff_eq, bne_iff_ne, Bool.not_eq_true', Bool.and_eq_true] at hb1
          refine q_region hG ?_ ?_ -- R7
          · try simp only [and_true, true_and]
            exact ⟨by omega, hb1⟩
          show ∃ z, _
          simp only [ml0, ml1, Nat.reduceLT, Nat.reduceEqDiff, Nat.reduceAdd, Nat.reduceMul, Nat.reduceSub, Nat.reduceLeDiff, Nat.reduceBEq, Nat.reduceBNe, reduceIte, reduceDIte, reduceCtorEq]
          first | exact lose_w i hC.2.1 hC.2.2.1 hz.2.2.2.2.1 | exact lose_none hb1
        · intro hb1
          try simp only [decide_eq_true_eq, decide_eq_false_iff_not, beq_eq_false_iff_ne, bne_eq_false_iff_eq, Bool.not_eq_false', Bool.and_eq_false_imp] at hb1
          refine r_skip ?_
          show ∃ z, _
          simp only [ml0, ml1, Nat.reduceLT, Nat.reduceEqDiff, Nat.reduceAdd, Nat.reduceMul, Nat.reduceSub, Nat.reduceLeDiff, Nat.reduceBEq, Nat.reduceBNe, reduceIte, reduceDIte, reduceCtorEq]
          first | exact lose_w i hC.2.1 hC.2.2.1 hz.2.2.2.2.1 | exact lose_none hb1
      rintro n hn
      try dsimp only at hn
      have hn2 : 0 ≤ n ∧ n < LB * LB := by rw [hn]; have := lose_n i hC.2.1 hC.2.2.1 hz.2.2.2.2.1; exact ⟨this.1, this.2.1⟩
      refine r_seq ?_
      refine q_region hG ?_ ?_ -- R8
      · try simp only [and_true, true_and]
        decide
      refine k_seq ?_
      refine r_seq ?_
      refine q_region hG ?_ ?_ -- R9
      · try simp only [and_true, true_and]
        exact ⟨⟨by omega, by omega⟩, by omega, by decide⟩
      refine k_seq ?_
      refine r_seq ?_
      refine q_region hG ?_ ?_ -- R10
      · trivial
      refine k_seq ?_
      refine r_cut (fun (z : Int × Int) => (⟨[(0, .l (.ownS 10000000)), (1, .l (.z (.slice (.int .u32)) o)), (2, .l (.z (.int .u64) q)), (7, .l (.z (.int .u64) (n / LB))), (8, .l (.z (.int .i64) z.2)), (9, .l (.z (.int .i64) (i : Int))), (11, .l (.z (.int .i64) z.1)), (14, .l (.z (.int .i64) ((List.length o + 1 : Nat) : Int))), (15, .l (.z (.int .i64) (i : Int)))], [(10000000, .win (.int .u32) 89 pre ys [])]⟩ : AState)) (fun z => (0 ≤ z.1 ∧ z.1 < LB) ∧ (0 ≤ z.2 ∧ z.2 ≤ 1) ∧ z.1 - LB * z.2 = ys.getD i 0 - n % LB - b) ?_ ?_
      · refine r_seq ?_
        refine q_region hG ?_ ?_ -- R11
        · trivial
        refine k_seq ?_
        refine q_cond ?_ ?_
        · intro hb2
          try simp only [decide_eq_true_eq, decide_eq_false_iff_not, beq_iff_eq, bne_iff_ne, Bool.not_eq_true', Bool.and_eq_true] at hb2
          refine q_region hG ?_ ?_ -- R12
          · trivial
          show ∃ z, _
          simp only [ml0, ml1, Nat.reduceLT, Nat.reduceEqDiff, Nat.reduceAdd, Nat.reduceMul, Nat.reduceSub, Nat.reduceLeDiff, Nat.reduceBEq, Nat.reduceBNe, reduceIte, reduceDIte, reduceCtorEq]
          first | exact (by simpa only [and_assoc] using (lose_cut hz.2.2.1 hn2 hz.2.2.2.2.2.2.1 rfl).1 hb2) | exact (by simpa only [and_assoc] using (lose_cut hz.2.2.1 hn2 hz.2.2.2.2.2.2.1 rfl).2 hb2)
        · intro hb2
          try simp only [decide_eq_true_eq, decide_eq_false_iff_not, beq_eq_false_iff_ne, bne_eq_false_iff_eq, Bool.not_eq_false', Bool.and_eq_false_imp] at hb2
          refine r_skip ?_
          show ∃ z, _
          simp only [ml0, ml1, Nat.reduceLT, Nat.reduceEqDiff, Nat.reduceAdd, Nat.reduceMul, Nat.reduceSub, Nat.reduceLeDiff, Nat.reduceBEq, Nat.reduceBNe, reduceIte, reduceDIte, reduceCtorEq]
          first | exact (by simpa only [and_assoc] using (lose_cut hz.2.2.1 hn2 hz.2.2.2.2.2.2.1 rfl).1 hb2) | exact (by simpa only [and_assoc] using (lose_cut hz.2.2.1 hn2 hz.2.2.2.2.2.2.1 rfl).2 hb2)
      rintro ⟨v, b2⟩ hv
      try dsimp only at hv
      refine q_region hG ?_ ?_ -- R13
      · try simp only [and_true, true_and]
        exact ⟨⟨by omega, by omega⟩, by omega⟩
      refine k_block ?_
      refine k_seq ?_
      refine q_region hG ?_ ?_ -- R14
      · trivial
      show ∃ z, _
      simp only [ml0, ml1, Nat.reduceLT, Nat.reduceEqDiff, Nat.reduceAdd, Nat.reduceMul, Nat.reduceSub, Nat.reduceLeDiff, Nat.reduceBEq, Nat.reduceBNe, reduceIte, reduceDIte, reduceCtorEq]
      exact lose_next hC.2.1 hC.2.2.1 hC.2.2.2.1 hC.2.2.2.2 hz hb0 hn hv
    · intro hb0
      try simp only [decide_eq_true_eq, decide_eq_false_iff_not, beq_eq_false_iff_ne, bne_eq_false_iff_eq, Bool.not_eq_false', Bool.and_eq_false_imp] at hb0
      refine r_exit ?_
      refine k_seq_exit ?_
      refine k_round_exit ?_
      refine k_block_exit ?_
      refine k_seq ?_
      refine r_seq ?_
      refine q_region hG ?_ ?_ -- R15
      · trivial
      refine k_seq ?_
      refine r_ret ?_
      refine ⟨[], ?_⟩
      simp only [hT, tab70, mr0, mr1, mr2, Nat.reduceLT, Nat.reduceEqDiff, Nat.reduceAdd, Nat.reduceMul, Nat.reduceSub, Nat.reduceLeDiff, Nat.reduceBEq, Nat.reduceBNe, reduceIte, reduceDIte, reduceCtorEq]
      exact ⟨(lose_end hC.2.2.2.1 hz (by omega)).2, trivial, (lose_end hC.2.2.2.1 hz (by omega)).1⟩

def tab71 (B : Base) : Tab := { types := [(3, (.int .i64)), (61, (.slice (.int .u32))), (89, (.int .u32))], elems := [], cons := [], hint := [], N := 37, base := B }
theorem good71 {B : Base} (hB : Tabs B) : MGood Tryz.prog (tab71 B) := ⟨⟨types_cons ty3 (types_cons ty61 (types_cons ty89 (types_nil))), elems_nil, by simp only [tab71, ioB]; omega⟩, cons_nil rfl, by kernel_rfl⟩
def cGain : Con := fun l os => match l, os with
  | [.ownS 10000000, .z (.slice (.int .u32)) o], [.win (.int .u32) 89 pre xs []] => some (Lim xs ∧ Lim o ∧ o.length + 1 ≤ xs.length ∧ o.length < CAP, [], [.win (.int .u32) 89 pre (put xs (o.length + 1) (valL (xs.take (o.length + 1)) + valL o)) []])
  | _, _ => none

theorem valid71 {B : Base} (hB : Tabs B) : Valid B Tryz.prog 86 cGain := by
  refine valid_of_J (T := tab71 B) (good71 hB).tab Tryz.func86 rfl rfl rfl ?_
  intro args os C rs os' hc hC
  unfold cGain at hc
  split at hc
  case h_2 => cases hc
  rename_i o pre xs
  cases hc
  refine ⟨by simp only [List.length_cons, List.length_nil, tab71]; omega, rfl, ?_⟩
  intro X hP hT hr
  have hG : MGood X.P X.T := by rw [hP, hT]; exact good71 hB
  unfold tab71 at hT
  have hX := Bool.not_true
  simp only [Tryz.f86, argEnv, ioList, ioB]
  refine r_seq ?_
  refine q_region hG ?_ ?_ -- R0
  · trivial
  refine k_seq ?_
  refine r_seq ?_
  refine q_region hG ?_ ?_ -- R1
  · trivial
  refine k_seq ?_
  refine j_block ?_
  refine j_loop (fun (z : Nat × Int × List Int) => (⟨[(0, .l (.ownS 10000000)), (1, .l (.z (.slice (.int .u32)) o)), (4, .l (.z (.int .u32) z.2.1)), (9, .l (.z (.int .i64) ((List.length o + 1 : Nat) : Int))), (10, .l (.z (.int .i64) (z.1 : Int)))], [(10000000, .win (.int .u32) 89 pre z.2.2 [])]⟩ : AState)) (fun z => GainPhi xs o z.1 z.2.1 z.2.2) (fun z => List.length o + 1 - z.1) (0, 0, xs) ?_ ?_ ?_
  · simp only [ml0, ml1, Nat.reduceLT, Nat.reduceEqDiff, Nat.reduceAdd, Nat.reduceMul, Nat.reduceSub, Nat.reduceLeDiff, Nat.reduceBEq, Nat.reduceBNe, reduceIte, reduceDIte, reduceCtorEq]
    exact ⟨wi (by omega) (by have : List.length o < 1000000000000 := hC.2.2.2; omega), rfl⟩
  · exact gain_start hC.1
  · rintro ⟨i, c, ys⟩ hz
    try dsimp only at hz
    have hl := hz.2.1
    have hlen := hC.2.2.1
    refine r_seq ?_
    refine q_region hG ?_ ?_ -- R2
    · trivial
    refine k_seq ?_
    refine r_seq ?_
    refine q_cond ?_ ?_
    · intro hb0
      try simp only [decide_eq_true_eq, decide_eq_false_iff_not, beq_iff_eq, bne_iff_ne, Bool.not_eq_true', Bool.and_eq_true] at hb0
      refine r_skip ?_
      refine k_seq ?_
      refine r_seq ?_
      refine j_block ?_
      refine r_seq ?_
      refine q_region hG ?_ ?_ -- R3
      · trivial
      refine k_seq ?_
      refine r_seq ?_
      refine q_region hG ?_ ?_ -- R4
      · try simp only [and_true, true_and]
        exact ⟨⟨by omega, by omega⟩, by omega⟩
      refine k_seq ?_
      refine r_cut (fun (z : Int) => (⟨[(0, .l (.ownS 10000000)), (1, .l (.z (.slice (.int .u32)) o)), (5, .l (.z (.int .i64) (i : Int))), (6, .l (.z (.int .u32) z)), (9, .l (.z (.int .i64) ((List.length o + 1 : Nat) : Int))), (10, .l (.z (.int .i64) (i : Int)))], [(10000000, .win (.int .u32) 89 pre ys [])]⟩ : AState)) (fun z => z = ys.getD i 0 + c + o.getD i 0) ?_ ?_
      · refine r_seq ?_
        refine q_region hG ?_ ?_ -- R5
        · trivial
        refine k_seq ?_
        refine q_cond ?_ ?_
        · intro hb1
          try simp only [decide_eq_true_eq, decide_eq_false_iff_not, beq_iff_eq, bne_iff_ne, Bool.not_eq_true', Bool.and_eq_true] at hb1
          refine q_region hG ?_ ?_ -- R6
          · try simp only [and_true, true_and]
            exact ⟨by omega, hb1⟩
          show ∃ z, _
          simp only [ml0, ml1, Nat.reduceLT, Nat.reduceEqDiff, Nat.reduceAdd, Nat.reduceMul, Nat.reduceSub, Nat.reduceLeDiff, Nat.reduceBEq, Nat.reduceBNe, reduceIte, reduceDIte, reduceCtorEq]
          first | exact (gain_w i hz.2.2.1 hC.2.1 hz.2.2.2.2.1).2 hb1 | exact (gain_w i hz.2.2.1 hC.2.1 hz.2.2.2.2.1).1
        · intro hb1
          try simp only [decide_eq_true_eq, decide_eq_false_iff_not, beq_eq_false_iff_ne, bne_eq_false_iff_eq, Bool.not_eq_false', Bool.and_eq_false_imp] at hb1
          refine r_skip ?_
          show ∃ z, _
          simp only [ml0, ml1, Nat.reduceLT, Nat.reduceEqDiff, Nat.reduceAdd, Nat.reduceMul, Nat.reduceSub, Nat.reduceLeDiff, Nat.reduceBEq, Nat.reduceBNe, reduceIte, reduceDIte, reduceCtorEq]
          first | exact (gain_w i hz.2.2.1 hC.2.1 hz.2.2.2.2.1).2 hb1 | exact (gain_w i hz.2.2.1 hC.2.1 hz.2.2.2.2.1).1
      rintro n hn
      try dsimp only at hn
      refine q_region hG ?_ ?_ -- R7
      · try simp only [and_true, true_and]
        exact ⟨by decide, by decide, ⟨by omega, by omega⟩, by omega⟩
      refine k_block ?_
      refine k_seq ?_
      refine q_region hG ?_ ?_ -- R8
      · trivial
      show ∃ z, _
      simp only [ml0, ml1, Nat.reduceLT, Nat.reduceEqDiff, Nat.reduceAdd, Nat.reduceMul, Nat.reduceSub, Nat.reduceLeDiff, Nat.reduceBEq, Nat.reduceBNe, reduceIte, reduceDIte, reduceCtorEq]
      exact gain_next hC.2.1 hC.2.2.1 hC.2.2.2 hz hb0 hn
    · intro hb0
      try simp only [decide_eq_true_eq, decide_eq_false_iff_not, beq_eq_false_iff_ne, bne_eq_false_iff_eq, Bool.not_eq_false', Bool.and_eq_false_imp] at hb0
      refine r_exit ?_
      refine k_seq_exit ?_
      refine k_round_exit ?_
      refine k_block_exit ?_
      refine ⟨[], ?_⟩
      simp only [hT, tab71, mr0, mr1, mr2, Nat.reduceLT, Nat.reduceEqDiff, Nat.reduceAdd, Nat.reduceMul, Nat.reduceSub, Nat.reduceLeDiff, Nat.reduceBEq, Nat.reduceBNe, reduceIte, reduceDIte, reduceCtorEq]
      exact ⟨trivial, gain_end hC.2.2.1 hz (by omega)⟩

end Go.Proofs.YtkgbdpmhdplddaaGreatDoor
end
