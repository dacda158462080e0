/- Merged by a program out of several texts. -/
import Derived.Test.YtkgbdpmhdplddaaGreatDoorQ4
import Derived.Test.YtkgbdpmhdplddaaGreatDoorQ3
import Derived.OpenShut
import Derived.RowKit
import Derived.ChangeArms
import Derived.ChangeSame
import Derived.Deep.Slices
import Derived.ProofKit
import Derived.Deep.DeepHandedRow
import Derived.Test.YtkgbdpmhdplddaaGreatDoorCards
import Derived.Test.YtkgbdpmhdplddaaGreatDoorTie
import Derived.Lib.LaidTab
import Derived.Stop.LaidErr
import Derived.Lib.SmallJoins
import Derived.KernelRfl
import Derived.Deep.DeepLaidRun
set_option linter.all false
set_option linter.unusedSimpArgs false
set_option linter.unusedVariables false

section
/- The laws of chapter 1 beside the reference: products and powers. No program is in sight here. -/
namespace Go.Cm
open Go.Proofs

theorem int_dead {x : List UInt8} (h : chk x = 0) : (intV x != (if inI64 (numI x) = true then numI x else 0) || inI64 (numI x) != (intE x == 0) || !inI64 (numI x) && intE x != 6) = false := by
  have iv := int_vals h
  rw [iv.1, iv.2]
  by_cases g : inI64 (numI x) = true
  · simp [g]
  · simp [g]

theorem int_deadB {x : List UInt8} (h : chk x ≠ 0) : (intV x != 0 || intE x != chk x) = false := by
  have iv := int_vals_bad h
  rw [iv.1, iv.2]
  simp

theorem dec_mono : ∀ (b a : Nat), a ≤ b → (Lib.decDigits a).length ≤ (Lib.decDigits b).length := by
  intro b
  induction b using Nat.strongRecOn with
  | ind b ih =>
    intro a h
    by_cases ha : a < 10
    · have h1 := decDigits_some b
      have h2 : (Lib.decDigits a).length = 1 := by
        rw [Lib.decDigits, dif_pos ha]; rfl
      omega
    · have hb : ¬ b < 10 := by omega
      have i1 := ih (b / 10) (by omega) (a / 10) (Nat.div_le_div_right h)
      rw [Lib.decDigits, dif_neg ha]
      conv => rhs; rw [Lib.decDigits, dif_neg hb]
      simp only [List.length_append, List.length_cons, List.length_nil]
      omega
theorem ndig_mono {a b : Int} (h : a.natAbs ≤ b.natAbs) : ndig a ≤ ndig b := by
  rw [ndig_itoa, ndig_itoa]
  exact Int.ofNat_le.2 (dec_mono _ _ h)

theorem pow_abs {x : Int} (hx : x ≠ 0) (k : Nat) : 1 ≤ (x ^ k).natAbs := by
  rw [Int.natAbs_pow]
  exact Nat.one_le_pow _ _ (by omega)
theorem powRun_eq {x : Int} (hx : x ≠ 0) : ∀ (k : Nat) (p : Int), ndig p ≤ 2000 → powRun x k p = if ndig (p * x ^ k) ≤ 2000 then some (p * x ^ k) else none
  | 0, p, hp => by rw [powRun, Int.pow_zero, Int.mul_one, if_pos hp]
  | k + 1, p, hp => by
    have e : p * x ^ (k + 1) = p * x * x ^ k := by rw [Int.pow_succ, Int.mul_comm (x ^ k) x, Int.mul_assoc]
    rw [powRun, e]
    by_cases h : ndig (p * x) ≤ 2000
    · rw [if_pos h, powRun_eq hx k _ h]
    · rw [if_neg h, if_neg]
      intro h2
      have hm : (p * x).natAbs ≤ (p * x * x ^ k).natAbs := by
        rw [Int.natAbs_mul (p * x)]
        exact Nat.le_mul_of_pos_right _ (pow_abs hx k)
      have := ndig_mono hm
      omega
theorem pow_par {x : Int} (h : x * x = 1) (m : Nat) : x ^ m = x ^ (m % 2) := by
  have e := Nat.div_add_mod m 2
  have h2 : x ^ 2 = 1 := by rw [Int.pow_succ, Int.pow_succ, Int.pow_zero, Int.one_mul, h]
  conv => lhs; rw [← e, Int.pow_add, Int.pow_mul, h2, Int.one_pow, Int.one_mul]

theorem one_small : ndig 1 ≤ 2000 := by simp [ndig, Lib.itoa, Lib.decDigits]
theorem zero_small : ndig 0 ≤ 2000 := by simp [ndig, Lib.itoa, Lib.decDigits]

theorem powN_pow {x : Int} (hx : x ≠ 0) (m : Nat) : x ^ (powN x (m : Int)).toNat = x ^ m := by
  unfold powN
  split
  · rename_i h
    have h1 : x * x = 1 := by
      have : 0 < x * x := by
        rcases Int.lt_or_gt_of_ne hx with h | h
        · exact Int.mul_pos_of_neg_of_neg h h
        · exact Int.mul_pos h h
      omega
    rw [pow_par h1, pow_par h1 m]
    congr 1
    have ht : Int.tmod (m : Int) 2 = ((m % 2 : Nat) : Int) := rfl
    rw [ht]
    omega
  · rw [Int.toNat_natCast]

theorem pow_run {x : Int} (m : Nat) : powRun x (powN x (m : Int)).toNat 1 = if ndig (x ^ m) ≤ 2000 then some (x ^ m) else none := by
  by_cases hx : x = 0
  · subst hx
    by_cases hm : m = 0
    · subst hm
      rw [Int.pow_zero, if_pos one_small]
      have : (powN 0 ((0 : Nat) : Int)).toNat = 0 := by decide
      rw [this]; rfl
    · have hz : (0 : Int) ^ m = 0 := Int.zero_pow hm
      rw [hz, if_pos zero_small]
      have hk : (powN 0 (m : Int)).toNat = 1 ∨ (powN 0 (m : Int)).toNat = 2 := by
        unfold powN
        rw [if_pos (by decide)]
        have ht : Int.tmod (m : Int) 2 = ((m % 2 : Nat) : Int) := rfl
        rw [ht]
        omega
      have hs : ndig (1 * 0) ≤ 2000 := zero_small
      have hs2 : ndig (1 * 0 * 0) ≤ 2000 := zero_small
      rcases hk with h | h <;> rw [h]
      · rw [powRun, if_pos hs]; rfl
      · rw [powRun, if_pos hs, powRun, if_pos hs2]; rfl
  · rw [powRun_eq hx _ _ one_small, Int.one_mul, powN_pow hx]

theorem pow_law {s : List UInt8} {m : Nat} (hc : chk s = 0) (hm : m ≤ 10000) : toldB (powV s (m : Int)) (powE s (m : Int)) (numI s ^ m) = true := by
  have hr := pow_run (x := numI s) m
  have hn : ¬ ((m : Int) < 0 ∨ 10000 < (m : Int)) := by omega
  unfold toldB powV
  by_cases h : ndig (numI s ^ m) ≤ 2000
  · rw [if_pos h] at hr
    have e : powE s (m : Int) = 0 := by unfold powE; rw [if_neg (fun g => g hc), if_neg hn, hr]
    rw [e, hr, if_neg (by omega)]
    simp
  · rw [if_neg h] at hr
    have e : powE s (m : Int) = 6 := by unfold powE; rw [if_neg (fun g => g hc), if_neg hn, hr]
    rw [e, if_pos (by omega)]
    simp

/-- What the power of any text is refused with. -/
def powNo (s : List UInt8) (n : Int) : Int := if chk s ≠ 0 then chk s else if n < 0 ∨ 10000 < n then 2 else 0
theorem powNo_bad {s : List UInt8} {n : Int} (h : powNo s n ≠ 0) : powV s n = [] ∧ powE s n = powNo s n := by
  unfold powNo at h ⊢
  by_cases hc : chk s ≠ 0
  · rw [if_pos hc]
    have := pow_bad (s := s) (n := n) (by rw [chkAll_one]; exact hc)
    rw [chkAll_one] at this
    exact ⟨this.1.symm, this.2.symm⟩
  · rw [if_neg hc] at h ⊢
    by_cases hn : n < 0 ∨ 10000 < n
    · rw [if_pos hn]
      have := pow_out (s := s) (Decidable.not_not.1 hc) hn
      exact ⟨this.1.symm, this.2.symm⟩
    · rw [if_neg hn] at h
      exact absurd rfl h

theorem powNo_t {s : List UInt8} {n : Int} (h : chk s = 0 ∧ (decide (n < 0) || decide (10000 < n)) = true) : 2 = powNo s n := by
  unfold powNo
  rw [if_neg (fun g => g h.1), if_pos (by simpa using h.2)]
theorem powNo_f {s : List UInt8} {n : Int} (h : (chk s == 0) = true → (decide (n < 0) || decide (10000 < n)) = false) : chk s = powNo s n := by
  unfold powNo
  by_cases hc : chk s = 0
  · have := h (by simpa using hc)
    rw [if_neg (fun g => g hc), if_neg (by simpa using this), hc]
  · rw [if_pos hc]
theorem c_mod {c : Int} (h : 0 ≤ c) : c.tmod 64 = ((c.toNat % 64 : Nat) : Int) := by
  obtain ⟨m, rfl⟩ := Int.eq_ofNat_of_zero_le h
  rfl

theorem pow_itoa {x : List UInt8} {i n : Nat} (hc : chk x = 0) (hl : (numI x).natAbs < 10 ^ n) (hn : n ≤ 50) (hi : i ≤ 64) : RS 20000000000 (Lib.itoa (numI x ^ i)) ∧ (RF (Lib.itoa (numI x ^ i)) ∧ (Lib.itoa (numI x ^ i)).length < CAP) ∧ numI (Lib.itoa (numI x ^ i)) = numI x ^ i ∧ RS 20000000000 x := by
  have h1 : (numI x ^ i).natAbs < 10 ^ (n * i + 1) := by
    rw [Int.natAbs_pow, Nat.pow_succ, Nat.pow_mul]
    have h2 : (numI x).natAbs ^ i ≤ (10 ^ n) ^ i := Nat.pow_le_pow_left (Nat.le_of_lt hl) i
    have h3 : 0 < (10 ^ n) ^ i := Nat.pow_pos (Nat.pow_pos (by omega))
    omega
  have h4 : n * i ≤ 50 * 64 := Nat.mul_le_mul hn hi
  have h5 := rs_itoa (n := n * i + 1 + 2) h1 (Nat.le_refl _)
  exact ⟨h5.1.up (by omega), h5.1.cap (by omega), h5.2, (rs_of hc).up (by omega)⟩

theorem div_vals0 {a b : List UInt8} (h : chkAll [a, b] = 0) : (numI b = 0 → divV1 a b = [] ∧ divV2 a b = [] ∧ divVE a b = 2) ∧ (numI b ≠ 0 → divV1 a b = Lib.itoa (floorQ (numI a) (numI b)) ∧ divV2 a b = Lib.itoa (floorR (numI a) (numI b)) ∧ divVE a b = 0) := by
  refine ⟨fun h0 => ?_, fun h0 => ?_⟩
  · have e : divVE a b = 2 := by unfold divVE; rw [if_pos h, if_pos h0]
    unfold divV1 divV2
    rw [e]; exact ⟨rfl, rfl, rfl⟩
  · have e : divVE a b = 0 := by unfold divVE; rw [if_pos h, if_neg h0]
    unfold divV1 divV2
    rw [e]; exact ⟨rfl, rfl, rfl⟩
theorem div_valsB {a b : List UInt8} (h : chkAll [a, b] ≠ 0) : divV1 a b = [] ∧ divV2 a b = [] ∧ divVE a b = chkAll [a, b] := by
  have := divT_bad h
  exact ⟨this.1.symm, this.2.1.symm, this.2.2.symm⟩
theorem chk_two {a b : List UInt8} : (chk a = 0 → chk b = chkAll [a, b]) ∧ (chk a ≠ 0 → chk a = chkAll [a, b]) := by
  refine ⟨fun h => ?_, fun h => ?_⟩
  · show chk b = (if chk a = 0 then (if chk b = 0 then 0 else chk b) else chk a)
    rw [if_pos h]
    split
    · assumption
    · rfl
  · show chk a = (if chk a = 0 then (if chk b = 0 then 0 else chk b) else chk a)
    rw [if_neg h]
theorem two_zero {a b : List UInt8} (h : chkAll [a, b] = 0) : chk a = 0 ∧ chk b = 0 := by
  by_cases ha : chk a = 0
  · exact ⟨ha, by rw [chk_two.1 ha]; exact h⟩
  · exact absurd ((chk_two.2 ha).trans h) ha
theorem gcd_told {a b : List UInt8} (h : chkAll [a, b] = 0) : resS (chkAll [a, b]) (gcdI (numI a) (numI b)) = Lib.itoa (gcdI (numI a) (numI b)) ∧ resE (chkAll [a, b]) (gcdI (numI a) (numI b)) = 0 := by
  obtain ⟨ha, hb⟩ := two_zero h
  have h1 := itoa_numI ha
  have h2 := itoa_numI hb
  have hn : ndig (gcdI (numI a) (numI b)) ≤ 2000 := by
    by_cases h0 : numI a = 0
    · rw [h0]
      unfold gcdI
      rw [Int.natAbs_zero, Nat.gcd_zero_left]
      have := ndig_mono (a := (((numI b).natAbs : Nat) : Int)) (b := numI b) (by omega)
      have := h2.2
      omega
    · have hle : (gcdI (numI a) (numI b)).natAbs ≤ (numI a).natAbs := by
        unfold gcdI
        rw [Int.natAbs_natCast]
        exact Nat.le_of_dvd (by omega) (Nat.gcd_dvd_left _ _)
      have := ndig_mono hle
      have := h1.2
      omega
  unfold resS resE
  rw [h, if_pos rfl, if_pos rfl, if_neg (by omega), if_neg (by omega)]
  exact ⟨rfl, rfl⟩
theorem pair_at {a b c d : List UInt8} (h : S3k a ∧ S3k b ∧ S3k c ∧ S3k d) {k : Nat} (hk : (k : Int) < 4) :
    ∃ x y : List UInt8, nth (.arr 2 .str) [[a, b], [a, d], [c, b], [c, d]] (k : Int) = [x, y] ∧ S3k x ∧ S3k y := by
  match k, hk with
  | 0, _ => exact ⟨a, b, rfl, h.1, h.2.1⟩
  | 1, _ => exact ⟨a, d, rfl, h.1, h.2.2.2⟩
  | 2, _ => exact ⟨c, b, rfl, h.2.2.1, h.2.1⟩
  | 3, _ => exact ⟨c, d, rfl, h.2.2.1, h.2.2.2⟩

end Go.Cm
end

section
/- Reading typed data: what the reading of an argument gives, and that it reads so again behind a call that writes new blocks alone. No program is in sight. -/
namespace Go.Cm
open Go.RowKit Go.Deep Go.ChangeShapes Go.WideShapes

/-- Every block below is as it was. -/
def Below (W W' : World) : Prop := ∀ b, b < W.heap.size → W'.heap[b]? = W.heap[b]?

theorem Below.cell {W W' : World} (h : Below W W') {a : Addr} {v : Value} (hc : W.cell? a = some v) : W'.cell? a = some v := by
  rw [← hc]
  exact World.cell?_of_block (h a.block (block_lt_of_cell hc))

def rdOne (P : Program) (w : Nat) (r : TypeId → Bool) : Nat → List Field → Bool := fun off fs => match fs with
  | [f] => f.offset == off && P.cellsOf f.type == w && r f.type
  | _ => false
def rdBoth (P : Program) (w : Nat) (r : TypeId → Bool) : (TypeId → Bool) × (Nat → List Field → Bool) := (r, rdOne P w r)

/-- Does the program's type read as this one? The second: do these fields, from this place on? -/
def Ty.rd (P : Program) : Ty → (TypeId → Bool) × (Nat → List Field → Bool)
  | .int k => rdBoth P 1 fun T => match P.underlying T with
    | some (.int k') => decide (k' = k)
    | _ => false
  | .bool => rdBoth P 1 fun T => match P.underlying T with
    | some .bool => true
    | _ => false
  | .str => rdBoth P 1 fun T => match P.underlying T with
    | some .string => true
    | _ => false
  | .unit => (fun _ => false, fun _ _ => false)
  | .pair a b => (fun _ => false, fun off fs => match fs with
    | f :: r => f.offset == off && P.cellsOf f.type == a.w && (a.rd P).1 f.type && (b.rd P).2 (off + a.w) r
    | [] => false)
  | .st t => rdBoth P t.w fun T => match P.underlying T with
    | some (.struct fs) => P.cellsOf T == t.w && (t.rd P).2 0 fs.toList
    | _ => false
  | .arr n t => rdBoth P (n * t.w) fun T => match P.underlying T with
    | some (.array m E) => m == n && P.cellsOf E == t.w && P.cellsOf T == n * t.w && (t.rd P).1 E
    | _ => false
  | .slice t => rdBoth P 1 fun T => match P.underlying T with
    | some (.slice E) => P.cellsOf E == t.w && decide (0 < t.w) && (t.rd P).1 E
    | _ => false
  | .ptr _ => (fun _ => false, fun _ _ => false)
  | .opt _ => (fun _ => false, fun _ _ => false)

/-- Data within the bounds of their type. -/
def Ty.okD : (t : Ty) → t.D → Prop
  | .int k, x => k.min ≤ x ∧ x ≤ k.max
  | .bool, _ => True
  | .str, x => x.length ≤ maxLen
  | .unit, _ => True
  | .pair a b, x => a.okD x.1 ∧ b.okD x.2
  | .st t, x => t.okD x
  | .arr n t, x => x.length = n ∧ ∀ y ∈ x, t.okD y
  | .slice t, x => x.length ≤ maxLen ∧ ∀ y ∈ x, t.okD y
  | .ptr t, x => t.okD x
  | .opt t, x => ∀ y, x = some y → t.okD y

section
variable {H : Type} (enc : TypeId × Value → H) (P : Program) (W : World)

/-- One reading of cells: data that lie so, and the same reading behind. -/
def Opens (t : Ty) (T : TypeId) (cs : List Value) (d : DataW H) (ps : List MemPlace) : Prop :=
  ∃ x : t.D, t.okD x ∧ t.rep (fun _ => False) W cs x ∧
    ∀ (W' : World) (sp : Nat → Bool), Below W W' → (∀ q ∈ ps, sp q.block = true) → ∃ n, DataW.trod enc P W' 0 sp true n T cs = some (d, ps)

theorem mapM_at {α β : Type} {f : α → Option β} : ∀ {l : List α} {xs : List β}, l.mapM f = some xs → xs.length = l.length ∧ ∀ (i : Nat) a, l[i]? = some a → f a = xs[i]?
  | [], xs, h => by simp at h; subst h; simp
  | a :: l, xs, h => by
    simp only [List.mapM_cons, Option.bind_eq_bind, Option.bind_eq_some_iff, Option.pure_def, Option.some.injEq] at h
    obtain ⟨y, hy, ys, hys, rfl⟩ := h
    obtain ⟨h1, h2⟩ := mapM_at hys
    refine ⟨by simp [h1], fun i b hb => ?_⟩
    cases i with
    | zero => simp at hb; subst hb; simpa using hy
    | succ i => simp at hb ⊢; exact h2 i b hb

theorem mapM_to {α β : Type} {f : α → Option β} : ∀ {l : List α} {xs : List β}, xs.length = l.length → (∀ (i : Nat) a, l[i]? = some a → f a = xs[i]?) → l.mapM f = some xs
  | [], xs, h, _ => by have := List.eq_nil_of_length_eq_zero h; subst this; rfl
  | a :: l, [], h, _ => by simp at h
  | a :: l, x :: xs, h, hf => by
    have h0 := hf 0 a rfl
    simp at h0
    have := mapM_to (f := f) (l := l) (xs := xs) (by simpa using h) (fun i b hb => by have := hf (i + 1) b (by simpa using hb); simpa using this)
    simp [List.mapM_cons, h0, this]

/-- Elements one after the other. -/
theorem repL_of {α : Type} {R : List Value → α → Prop} {ok : α → Prop} {w : Nat} : ∀ (n : Nat) (cs : List Value), cs.length = n * w → (∀ i, i < n → ∃ x, ok x ∧ R ((cs.drop (i * w)).take w) x) → ∃ xs : List α, xs.length = n ∧ (∀ x ∈ xs, ok x) ∧ repL R cs xs
  | 0, cs, h, _ => ⟨[], rfl, by simp, by simp [repL]; exact List.eq_nil_of_length_eq_zero (by omega)⟩
  | n + 1, cs, h, hx => by
    obtain ⟨x, h1, h2⟩ := hx 0 (by omega)
    simp only [Nat.zero_mul, List.drop_zero] at h2
    obtain ⟨xs, g1, g2, g3⟩ := repL_of (R := R) (ok := ok) (w := w) n (cs.drop w) (by rw [List.length_drop, h, Nat.succ_mul]; omega) (fun i hi => by
      obtain ⟨y, k1, k2⟩ := hx (i + 1) (by omega)
      refine ⟨y, k1, ?_⟩
      rw [List.drop_drop, show w + i * w = (i + 1) * w by rw [Nat.succ_mul]; omega]
      exact k2)
    refine ⟨x :: xs, by simp [g1], fun y hy => ?_, cs.take w, cs.drop w, (List.take_append_drop _ _).symm, h2, g3⟩
    rcases List.mem_cons.1 hy with rfl | hy
    · exact h1
    · exact g2 y hy

/-- Elements that lie in a block. -/
theorem lies_of {α : Type} {R : List Value → α → Prop} {ok : α → Prop} {w : Nat} {a : Addr} : ∀ (n : Nat), (∀ i, i < n → ∃ c, c.length = w ∧ (∀ j, j < w → W.cell? (a.add (i * w + j)) = c[j]?) ∧ ∃ x, ok x ∧ R c x) →
    ∃ (cells : List Value) (xs : List α), cells.length = n * w ∧ xs.length = n ∧ (∀ x ∈ xs, ok x) ∧ repL R cells xs ∧ ∀ k, k < n * w → W.cell? (a.add k) = cells[k]?
  | 0, _ => ⟨[], [], by simp, rfl, by simp, rfl, fun k hk => by simp at hk⟩
  | n + 1, h => by
    obtain ⟨cells, xs, h1, h2, h3, h4, h5⟩ := lies_of n (fun i hi => h i (by omega))
    obtain ⟨c, g1, g2, x, g3, g4⟩ := h n (by omega)
    refine ⟨cells ++ c, xs ++ [x], by rw [List.length_append, h1, g1, Nat.succ_mul], by simp [h2], fun y hy => ?_, repL_append h4 (repL_one g4), fun k hk => ?_⟩
    · rcases List.mem_append.1 hy with hy | hy
      · exact h3 y hy
      · simp at hy; subst hy; exact g3
    · by_cases hlt : k < n * w
      · rw [h5 k hlt, List.getElem?_append_left (by omega)]
      · rw [Nat.succ_mul] at hk
        rw [List.getElem?_append_right (by omega), h1, ← g2 (k - n * w) (by omega), show n * w + (k - n * w) = k by omega]

theorem cells_get {W : World} {b : Nat} {a : Addr} {n : Nat} {cs : List Value} (h : W.cells? b a n = some cs) : cs.length = n ∧ ∀ j, j < n → W.cell? (a.add j) = cs[j]? := by
  unfold World.cells? at h
  split at h
  · obtain ⟨h1, h2⟩ := mapM_at h
    refine ⟨by simpa using h1, fun j hj => h2 j j (by simp [hj])⟩
  · cases h

theorem cells_to {W : World} {a : Addr} {n : Nat} {cs : List Value} (h : cs.length = n) (hc : ∀ j, j < n → W.cell? (a.add j) = cs[j]?) : W.cells? 0 a n = some cs := by
  unfold World.cells?
  rw [if_pos (Nat.zero_le _)]
  exact mapM_to (by simpa using h) (fun i b hb => by
    obtain ⟨hi, e⟩ := List.getElem?_eq_some_iff.1 hb
    simp at hi e; subst e
    exact hc i hi)

theorem rd_ok (t : Ty) : (∀ T, (t.rd P).1 T = true → ∀ fuel cs d ps, DataW.trod enc P W 0 (fun _ => true) true fuel T cs = some (d, ps) → Opens enc P W t T cs d ps) := by
  have single : ∀ (u : Ty) (w : Nat), u.w = w → (∀ T, (u.rd P).1 T = true → ∀ fuel cs d ps, DataW.trod enc P W 0 (fun _ => true) true fuel T cs = some (d, ps) → Opens enc P W u T cs d ps) →
      ∀ off fs, rdOne P w (u.rd P).1 off fs = true → ∀ (fuel : Nat) (cs : List Value) (xs : List (DataW H × List MemPlace)), cs.length = off + u.w → fs.mapM (fun f => DataW.trod enc P W 0 (fun _ => true) true fuel f.type ((cs.drop f.offset).take (P.cellsOf f.type))) = some xs →
      ∃ x : u.D, u.okD x ∧ u.rep (fun _ => False) W (cs.drop off) x ∧ ∀ (W' : World) (sp : Nat → Bool), Below W W' → (∀ q ∈ xs.flatMap (·.2), sp q.block = true) → ∃ n, fs.mapM (fun f => DataW.trod enc P W' 0 sp true n f.type ((cs.drop f.offset).take (P.cellsOf f.type))) = some xs := by
    intro u w hw ih off fs hr fuel cs xs hl hm
    unfold rdOne at hr
    split at hr
    · rename_i f
      simp only [Bool.and_eq_true, beq_iff_eq] at hr
      obtain ⟨⟨h1, h2⟩, h3⟩ := hr
      rw [List.mapM_cons, Option.bind_eq_bind, Option.bind_eq_some_iff] at hm
      obtain ⟨⟨d, ps⟩, hd, hm⟩ := hm
      simp at hm
      subst hm
      have hcut : (cs.drop f.offset).take (P.cellsOf f.type) = cs.drop off := by
        rw [h1, h2]; exact List.take_of_length_le (by rw [List.length_drop]; omega)
      rw [hcut] at hd
      obtain ⟨x, g1, g2, g3⟩ := ih _ h3 _ _ _ _ hd
      refine ⟨x, g1, g2, fun W' sp hB hq => ?_⟩
      obtain ⟨n, hn⟩ := g3 W' sp hB (fun q hq' => hq q (by simpa using hq'))
      exact ⟨n, by simp [hcut, hn]⟩
    · cases hr
  suffices key : (∀ T, (t.rd P).1 T = true → ∀ fuel cs d ps, DataW.trod enc P W 0 (fun _ => true) true fuel T cs = some (d, ps) → Opens enc P W t T cs d ps) ∧
      ∀ off fs, (t.rd P).2 off fs = true → ∀ (fuel : Nat) (cs : List Value) (xs : List (DataW H × List MemPlace)), cs.length = off + t.w → fs.mapM (fun f => DataW.trod enc P W 0 (fun _ => true) true fuel f.type ((cs.drop f.offset).take (P.cellsOf f.type))) = some xs →
      ∃ x : t.D, t.okD x ∧ t.rep (fun _ => False) W (cs.drop off) x ∧ ∀ (W' : World) (sp : Nat → Bool), Below W W' → (∀ q ∈ xs.flatMap (·.2), sp q.block = true) → ∃ n, fs.mapM (fun f => DataW.trod enc P W' 0 sp true n f.type ((cs.drop f.offset).take (P.cellsOf f.type))) = some xs from key.1
  induction t with
  | int k =>
    have h : ∀ T, ((Ty.int k).rd P).1 T = true → ∀ fuel cs d ps, DataW.trod enc P W 0 (fun _ => true) true fuel T cs = some (d, ps) → Opens enc P W (.int k) T cs d ps := by
      intro T hT fuel cs d ps h
      simp only [Ty.rd, rdBoth] at hT
      split at hT
      · rename_i k' hu
        simp only [decide_eq_true_eq] at hT
        subst hT
        obtain ⟨z, rfl, he, hw⟩ := DataW.trod_int hu h
        cases he
        have h2 : IntKind.min k' ≤ z ∧ z ≤ IntKind.max k' := by simpa [Lit.wf, IntKind.has] using hw
        exact ⟨z, h2, rfl, fun W' sp _ _ => ⟨1, trod_int_mk 0 hu hw⟩⟩
      · cases hT
    exact ⟨h, single (.int k) 1 rfl h⟩
  | bool =>
    have h : ∀ T, (Ty.bool.rd P).1 T = true → ∀ fuel cs d ps, DataW.trod enc P W 0 (fun _ => true) true fuel T cs = some (d, ps) → Opens enc P W .bool T cs d ps := by
      intro T hT fuel cs d ps h
      simp only [Ty.rd, rdBoth] at hT
      split at hT
      · rename_i hu
        obtain ⟨z, rfl, he⟩ := DataW.trod_bool hu h
        cases he
        exact ⟨z, trivial, rfl, fun W' sp _ _ => ⟨1, by unfold DataW.trod; rw [hu]⟩⟩
      · cases hT
    exact ⟨h, single .bool 1 rfl h⟩
  | str =>
    have h : ∀ T, (Ty.str.rd P).1 T = true → ∀ fuel cs d ps, DataW.trod enc P W 0 (fun _ => true) true fuel T cs = some (d, ps) → Opens enc P W .str T cs d ps := by
      intro T hT fuel cs d ps h
      simp only [Ty.rd, rdBoth] at hT
      split at hT
      · rename_i hu
        obtain ⟨z, rfl, he, hz⟩ := DataW.trod_string hu h
        cases he
        refine ⟨z.data.toList, by simpa [Ty.okD] using hz, rfl, fun W' sp _ _ => shut_string_cell hu hz⟩
      · cases hT
    exact ⟨h, single .str 1 rfl h⟩
  | unit => exact ⟨fun T h => by simp [Ty.rd] at h, fun off fs h => by simp [Ty.rd] at h⟩
  | ptr t _ => exact ⟨fun T h => by simp [Ty.rd] at h, fun off fs h => by simp [Ty.rd] at h⟩
  | opt t _ => exact ⟨fun T h => by simp [Ty.rd] at h, fun off fs h => by simp [Ty.rd] at h⟩
  | pair a b iha ihb =>
    refine ⟨fun T h => by simp [Ty.rd] at h, ?_⟩
    intro off fs hr fuel cs xs hl hm
    simp only [Ty.rd] at hr
    split at hr
    · rename_i f r
      simp only [Bool.and_eq_true, beq_iff_eq] at hr
      obtain ⟨⟨⟨h1, h2⟩, h3⟩, h4⟩ := hr
      rw [List.mapM_cons, Option.bind_eq_bind, Option.bind_eq_some_iff] at hm
      obtain ⟨⟨d, ps⟩, hd, hm⟩ := hm
      rw [Option.bind_eq_bind, Option.bind_eq_some_iff] at hm
      obtain ⟨ys, hys, hm⟩ := hm
      simp at hm
      subst hm
      rw [h1, h2] at hd
      simp only [Ty.w] at hl
      obtain ⟨x, g1, g2, g3⟩ := iha.1 _ h3 _ _ _ _ hd
      obtain ⟨y, k1, k2, k3⟩ := ihb.2 _ _ h4 _ _ _ (by omega) hys
      refine ⟨(x, y), ⟨g1, k1⟩, ⟨(cs.drop off).take a.w, cs.drop (off + a.w), ?_, g2, k2⟩, fun W' sp hB hq => ?_⟩
      · rw [← List.drop_drop, List.take_append_drop]
      · obtain ⟨n, hn⟩ := g3 W' sp hB (fun q hq' => hq q (by simp [hq']))
        obtain ⟨m, hm⟩ := k3 W' sp hB (fun q hq' => hq q (by rw [List.flatMap_cons]; exact List.mem_append_right _ hq'))
        refine ⟨max n m, ?_⟩
        rw [List.mapM_cons, h1, h2, DataW.trod_le (Nat.le_max_left n m) hn]
        have : r.mapM (fun f => DataW.trod enc P W' 0 sp true (max n m) f.type ((cs.drop f.offset).take (P.cellsOf f.type))) = some ys := by
          obtain ⟨q1, q2⟩ := mapM_at hm
          refine mapM_to q1 fun i f hf => ?_
          have hi : i < ys.length := by rw [q1]; exact (List.getElem?_eq_some_iff.1 hf).1
          have := q2 i f hf
          rw [List.getElem?_eq_getElem hi] at this ⊢
          exact DataW.trod_le (Nat.le_max_right n m) this
        simp [this]
    · cases hr
  | st t ih =>
    have h : ∀ T, ((Ty.st t).rd P).1 T = true → ∀ fuel cs d ps, DataW.trod enc P W 0 (fun _ => true) true fuel T cs = some (d, ps) → Opens enc P W (.st t) T cs d ps := by
      intro T hT fuel cs d ps h
      simp only [Ty.rd, rdBoth] at hT
      split at hT
      · rename_i fs hu
        simp only [Bool.and_eq_true, beq_iff_eq] at hT
        obtain ⟨xs, n, rfl, he, hl, hxl, hx⟩ := DataW.trod_struct hu h
        cases he
        obtain ⟨x, g1, g2, g3⟩ := ih.2 0 _ hT.2 n cs xs (by rw [hl, hT.1]; omega) (mapM_to (by rw [hxl]; rfl) (fun i f hf => hx i f (by simpa using hf)))
        refine ⟨x, g1, (show t.rep (fun _ => False) W cs x by simpa using g2), fun W' sp hB hq => ?_⟩
        obtain ⟨m, hm⟩ := g3 W' sp hB hq
        exact ⟨m + 1, trod_struct_mk hu hl hm⟩
      · cases hT
    exact ⟨h, single (.st t) t.w rfl h⟩
  | arr n t ih =>
    have h : ∀ T, ((Ty.arr n t).rd P).1 T = true → ∀ fuel cs d ps, DataW.trod enc P W 0 (fun _ => true) true fuel T cs = some (d, ps) → Opens enc P W (.arr n t) T cs d ps := by
      intro T hT fuel cs d ps h
      simp only [Ty.rd, rdBoth] at hT
      split at hT
      · rename_i m E hu
        simp only [Bool.and_eq_true, beq_iff_eq] at hT
        obtain ⟨⟨⟨rfl, h2⟩, h3⟩, h4⟩ := hT
        obtain ⟨xs, k, rfl, he, hl, hxl, hx⟩ := DataW.trod_array hu h
        cases he
        have each : ∀ i, i < m → Opens enc P W t E ((cs.drop (i * t.w)).take t.w) ((xs.map (·.1)).getD i .nil) ((xs.map (·.2)).getD i []) := by
          intro i hi
          have := hx i hi
          rw [h2, List.getElem?_eq_getElem (by omega)] at this
          refine ih.1 E h4 k _ _ _ ?_
          rw [this]
          simp [List.getD_eq_getElem?_getD, List.getElem?_eq_getElem (show i < xs.length by omega)]
        obtain ⟨ys, q1, q2, q3⟩ := repL_of (R := fun c y => t.rep (fun _ => False) W c y) (ok := t.okD) m cs (by rw [hl, h3]) (fun i hi => by obtain ⟨x, e1, e2, _⟩ := each i hi; exact ⟨x, e1, e2⟩)
        refine ⟨ys, ⟨q1, q2⟩, ⟨q1, q3⟩, fun W' sp hB hq => ?_⟩
        obtain ⟨f, hf⟩ := fuel_lt (n := m) (q := fun i f => DataW.trod enc P W' 0 sp true f E ((cs.drop (i * t.w)).take t.w) = xs[i]? ∧ i < xs.length) (fun i a b hab hi => by
            cases hx' : xs[i]? with
            | none => exact absurd hi.2 (by rw [List.getElem?_eq_none_iff] at hx'; omega)
            | some y => rw [hx'] at hi; exact ⟨DataW.trod_le hab hi.1, hi.2⟩) (fun i hi => by
          obtain ⟨_, _, _, e3⟩ := each i hi
          have hil : i < xs.length := by omega
          obtain ⟨f, hf⟩ := e3 W' sp hB (fun q hq' => hq q (by
            rw [List.mem_flatMap]
            refine ⟨xs[i], List.getElem_mem hil, ?_⟩
            simpa [List.getD_eq_getElem?_getD, List.getElem?_eq_getElem hil] using hq'))
          refine ⟨f, ?_, hil⟩
          rw [hf, List.getElem?_eq_getElem hil]
          simp [List.getD_eq_getElem?_getD, List.getElem?_eq_getElem hil])
        refine ⟨f + 1, ?_⟩
        have hmm : (List.range m).mapM (fun i => DataW.trod enc P W' 0 sp true f E ((cs.drop (i * t.w)).take t.w)) = some xs := mapM_to (by simpa using hxl) (fun i b hb => by
          obtain ⟨hi, e⟩ := List.getElem?_eq_some_iff.1 hb
          simp at hi e; subst e
          exact (hf i hi).1)
        unfold DataW.trod
        rw [hu]
        simp only [h2, hl, hmm, if_true, Option.map_some]
      · cases hT
    exact ⟨h, single (.arr n t) (n * t.w) rfl h⟩
  | slice t ih =>
    have h : ∀ T, ((Ty.slice t).rd P).1 T = true → ∀ fuel cs d ps, DataW.trod enc P W 0 (fun _ => true) true fuel T cs = some (d, ps) → Opens enc P W (.slice t) T cs d ps := by
      intro T hT fuel cs d ps h
      simp only [Ty.rd, rdBoth] at hT
      split at hT
      · rename_i E hu
        simp only [Bool.and_eq_true, beq_iff_eq, decide_eq_true_eq] at hT
        obtain ⟨⟨h1, h2⟩, h3⟩ := hT
        rcases open_slice hu h with ⟨rfl, he⟩ | ⟨a, len, cap, m, k, D, Pl, rfl, hb, hl, hm, he1, he, hx⟩
        · cases he
          exact ⟨[], ⟨by simp, by simp⟩, .inl ⟨rfl, rfl⟩, fun W' sp _ _ => ⟨1, by unfold DataW.trod; rw [hu]; rfl⟩⟩
        · cases he
          simp only [if_true] at he1
          subst he1
          rw [h1] at hx
          have each : ∀ i, i < m → ∃ c, c.length = t.w ∧ (∀ j, j < t.w → W.cell? (a.add (i * t.w + j)) = c[j]?) ∧ Opens enc P W t E c (D i) (Pl i) := by
            intro i hi
            obtain ⟨c, hc, hd⟩ := hx i hi
            obtain ⟨g1, g2⟩ := cells_get hc
            exact ⟨c, g1, fun j hj => by rw [← g2 j hj, add_add], ih.1 E h3 k _ _ _ hd⟩
          obtain ⟨cells, ys, q1, q2, q3, q4, q5⟩ := lies_of W (R := fun c y => t.rep (fun _ => False) W c y) (ok := t.okD) (a := a) len (fun i hi => by
            obtain ⟨c, e1, e2, x, e3, e4, _⟩ := each i (by omega)
            exact ⟨c, e1, e2, x, e3, e4⟩)
          obtain ⟨b, o, p⟩ := a
          have hp : 0 < m → p = none := by
            intro hlen
            obtain ⟨c, e1, e2, _⟩ := each 0 hlen
            have := e2 0 h2
            rw [List.getElem?_eq_getElem (by omega)] at this
            simp only [Nat.zero_mul, Nat.add_zero] at this
            unfold World.cell? Addr.add at this
            split at this
            · cases p with
              | none => rfl
              | some _ => simp at this
            · cases this
          have hne : ys ≠ [] → p = none := fun h => hp (by cases ys with
            | nil => exact absurd rfl h
            | cons y ys => simp at q2; omega)
          refine ⟨ys, ⟨by omega, q3⟩, .inr ⟨b, o, p, m, cells, by rw [q2], hne, by omega, hm, q4, fun _ h => h, fun j hj => ?_⟩, fun W' sp hB hq => ?_⟩
          · have hys : ys ≠ [] := by
              intro e; subst e
              have e : cells = [] := q4
              subst e; simp at hj
            obtain rfl := hne hys
            have := q5 j (by omega)
            rw [← this, addr_add]
            simp
          · by_cases h0 : m = 0
            · subst h0
              have hlen : len = 0 := by omega
              subst hlen
              refine ⟨1, ?_⟩
              unfold DataW.trod
              rw [hu]
              simp [MemPlace.row, hm]
            · have hs : sp b = true := hq (.cell b o) (by
                simp only [MemPlace.row, List.mem_append, List.mem_map, List.mem_range]
                exact .inl ⟨0, by rw [h1]; exact Nat.mul_pos (by omega) h2, by simp⟩)
              have := shut_slice_whole_cells (enc := enc) (w := W') (base := 0) (spare := sp) (held := true) (a := ⟨b, o, p⟩) hu hb hl hm hs D Pl (fun i hi => by
                obtain ⟨c, e1, e2, x, e3, e4, e5⟩ := each i hi
                obtain ⟨n, hn⟩ := e5 W' sp hB (fun q hq' => hq q (by
                  rw [List.mem_append]; right
                  rw [List.mem_flatMap]; exact ⟨i, by simpa using hi, hq'⟩))
                refine ⟨c, n, ?_, hn⟩
                rw [h1]
                refine cells_to e1 fun j hj => ?_
                rw [add_add]
                have := e2 j hj
                rw [List.getElem?_eq_getElem (by omega)] at this ⊢
                exact hB.cell this)
              exact this
      · cases hT
    exact ⟨h, single (.slice t) 1 rfl h⟩

end
end Go.Cm
end

section
/- A law's row out of its function's contract: for laws of any typed data. No program is in sight. -/
namespace Go.Cm
open Go.RowKit Go.Deep Go.ChangeShapes Go.WideShapes Go.ChangeAt

/-- A law's arguments. -/
def HL : List Ty → Type
  | [] => Unit
  | t :: ts => t.D × HL ts
def HL.args : (ts : List Ty) → HL ts → List LV
  | [], _ => []
  | t :: ts, x => .z t x.1 :: HL.args ts x.2
def HL.ok : (ts : List Ty) → HL ts → Prop
  | [], _ => True
  | t :: ts, x => t.okD x.1 ∧ HL.ok ts x.2

theorem agg_of {P : Program} {W : World} {r : Reach} {b0 : Nat} {T : TypeId} {v : Value} (hv : Value.okWide P W r b0 T v) : ∀ {t : Ty}, (t.rd P).1 T = true → isAggV v = t.isAgg
  | .int k, h => by
    simp only [Ty.rd, rdBoth] at h
    split at h
    · rename_i hu; unfold Value.okWide at hv; rw [hu] at hv; simp only at hv; unfold Cell.okWide at hv; rw [hu] at hv
      cases v <;> simp_all [Cell.ok, isAggV, Ty.isAgg]
    · cases h
  | .bool, h => by
    simp only [Ty.rd, rdBoth] at h
    split at h
    · rename_i hu; unfold Value.okWide at hv; rw [hu] at hv; simp only at hv; unfold Cell.okWide at hv; rw [hu] at hv
      cases v <;> simp_all [Cell.ok, isAggV, Ty.isAgg]
    · cases h
  | .str, h => by
    simp only [Ty.rd, rdBoth] at h
    split at h
    · rename_i hu; unfold Value.okWide at hv; rw [hu] at hv; simp only at hv; unfold Cell.okWide at hv; rw [hu] at hv
      cases v <;> simp_all [Cell.ok, isAggV, Ty.isAgg]
    · cases h
  | .slice t, h => by
    simp only [Ty.rd, rdBoth] at h
    split at h
    · rename_i hu; unfold Value.okWide at hv; rw [hu] at hv; simp only at hv; unfold Cell.okWide at hv; rw [hu] at hv
      cases v <;> simp_all [Cell.ok, isAggV, Ty.isAgg]
    · cases h
  | .st t, h => by
    simp only [Ty.rd, rdBoth] at h
    split at h
    · rename_i hu; unfold Value.okWide at hv; rw [hu] at hv; simp only at hv
      obtain ⟨cs, rfl, _⟩ := hv; rfl
    · cases h
  | .arr n t, h => by
    simp only [Ty.rd, rdBoth] at h
    split at h
    · rename_i hu; unfold Value.okWide at hv; rw [hu] at hv; simp only at hv
      obtain ⟨cs, rfl, _⟩ := hv; rfl
    · cases h
  | .unit, h => by simp [Ty.rd] at h
  | .pair _ _, h => by simp [Ty.rd] at h
  | .ptr _, h => by simp [Ty.rd] at h
  | .opt _, h => by simp [Ty.rd] at h

/-- Do these types read as those? -/
def rdAll (P : Program) : List Ty → List TypeId → Bool
  | [], [] => true
  | t :: ts, T :: Ts => (t.rd P).1 T && rdAll P ts Ts
  | _, _ => false

theorem open_all {H : Type} {enc : TypeId × Value → H} {P : Program} {W : World} {b0 : Nat} : ∀ (ts : List Ty) {Ts : List TypeId} {vs : List Value} {ds : List (DataW H)} {p : List MemPlace}, rdAll P ts Ts = true →
    (∀ (j : Nat) t v, Ts[j]? = some t → vs[j]? = some v → Value.okWide P W .any b0 t v) → DataW.TrodAll enc P W 0 (fun _ => true) true Ts vs ds p →
    ∃ x : HL ts, HL.ok ts x ∧ All2 (RepL (fun _ => False) W (fun _ => undef)) (HL.args ts x) vs ∧ ds.length = ts.length ∧
      ∀ (W' : World) (sp : Nat → Bool), Below W W' → (∀ q ∈ p, sp q.block = true) → DataW.TrodAll enc P W' 0 sp true Ts vs ds p
  | [], [], vs, ds, p, _, _, h => by
    obtain ⟨rfl, rfl, rfl⟩ := trodAll_nil h
    exact ⟨(), trivial, trivial, rfl, fun _ _ _ _ => rfl⟩
  | t :: ts, T :: Ts, vs, ds, p, hr, hv, h => by
    simp only [rdAll, Bool.and_eq_true] at hr
    obtain ⟨v, vs', d, ds', p0, q, rfl, rfl, rfl, ⟨n, h0⟩, hs⟩ := trodAll_cons h
    obtain ⟨x, g1, g2, g3⟩ := rd_ok enc P W t T hr.1 n _ _ _ h0
    obtain ⟨y, k1, k2, k3, k4⟩ := open_all ts hr.2 (fun j t v h1 h2 => hv (j + 1) t v (by simpa using h1) (by simpa using h2)) hs
    refine ⟨(x, y), ⟨g1, k1⟩, ⟨⟨agg_of (hv 0 T v rfl rfl) hr.1, g2⟩, k2⟩, by simp [k3], fun W' sp hB hq => ?_⟩
    obtain ⟨m, hm⟩ := g3 W' sp hB (fun q hq' => hq q (by simp [hq']))
    exact trodAll_cons_mk ⟨m, hm⟩ (k4 W' sp hB (fun q hq' => hq q (by simp [hq'])))
  | [], _ :: _, _, _, _, hr, _, _ => by simp [rdAll] at hr
  | _ :: _, [], _, _, _, hr, _, _ => by simp [rdAll] at hr

/-- What lies below a call. -/
def lawBase (W : World) : Base := ⟨W.heap.size, fun b => W.heap[b]?⟩

theorem lawBase_on (W : World) : (lawBase W).On W := ⟨Nat.le_refl _, fun _ _ => rfl⟩

/-- A law that returns true under its contract. -/
theorem law_calls {P : Program} {f : FuncId} {con : Con} {W : World} {args : List LV} {vals : Array Value} (hv : Valid (lawBase W) P f con) {C : Prop} (hc : con args [] = some (C, [.z .bool true], [])) (hC : C)
    (ha : All2 (RepL (fun _ => False) W (fun _ => undef)) args vals.toList) :
    Calls P f vals W fun e W' => e = .returned (.bool true) ∧ W'.os = W.os ∧ W'.output = W.output ∧ W.heap.size ≤ W'.heap.size ∧ Below W W' := by
  refine (hv args [] C _ [] hc hC (fun _ => False) W vals (fun _ => undef) (lawBase_on W) (fun b hb => by obtain ⟨p, hp, -⟩ := hb; simp [ioList] at hp) (fun _ h => h.elim) (fun _ h => h.elim) ?_ (fun p hp => by simp [ioList] at hp) List.Pairwise.nil).mono ?_
  · refine ha.imp fun x v _ hx => RepL_move (fun b _ hb => ?_) (Stays.refl _ _) (fun _ _ => rfl) hx
    rcases hb with hb | ⟨p, hp, -⟩
    · exact hb
    · simp [ioList] at hp
  · rintro e W' ⟨vs, rfl, -, hb, hr, -, -⟩
    match vs, hr with
    | [v], hr =>
      have h1 : RepL _ W' (fun _ => undef) (.z .bool true) v := hr.1
      have h2 : v.cells.toList = [.bool true] := h1.2
      have h3 : v = .bool true := by
        cases v with
        | agg cs => have := h1.1; cases this
        | _ => simp [Value.cells] at h2 <;> simp [h2]
      subst h3
      refine ⟨rfl, hb.os, hb.output, hb.size, fun b hlt => hb.block b hlt fun hm => ?_⟩
      rcases hm with hm | ⟨p, hp, -⟩
      · omega
      · simp [ioList] at hp

theorem law_post {H : Type} {enc : TypeId × Value → H} {P : Program} {f : Func} {s : ChangeSpec} {apart fresh handsOn again : Bool} {W W' : World} {args : Array Value} {v : Value} {ds gs : List (DataW H)} {before pa pv : List MemPlace}
    (hW : DataW.Whole enc P f.params.toList s.vars apart W args.toList ds gs before)
    (hres : ∀ (b : Nat) (sp : Nat → Bool) (hd : Bool), DataW.TrodAll enc P W' b sp hd f.resultTypes.toList (v.resultList f.resultTypes.size) (s.fn H (ds ++ gs)).results [])
    (hargs : ∀ sp : Nat → Bool, (∀ p ∈ before, sp p.block = true) → DataW.TrodAll enc P W' 0 sp true f.params.toList args.toList (s.fn H (ds ++ gs)).args pa)
    (hvars : ∀ sp : Nat → Bool, (∀ p ∈ before, sp p.block = true) → DataW.TrodVars enc P W' sp s.vars (s.fn H (ds ++ gs)).vars pv)
    (hps : before = pa ++ pv) (hk : W.keptBut W' (· ∈ before)) (hfz : ∀ a : Addr, a.block < W.heap.size → W'.frozen? a = W.frozen? a)
    (hok : ∀ (j : Nat) (t : TypeId) (r : Value), f.resultTypes[j]? = some t → (v.resultList f.resultTypes.size)[j]? = some r → Value.okWide P W' .any 0 t r) :
    s.post enc P f apart fresh handsOn again W args v W' := by
  have hold : ∀ p ∈ before, (fun b => decide (b < W.heap.size)) p.block = true := fun p hp => by simpa using hW.lt p hp
  refine ⟨ds, gs, before, [], pa, pv, hW, hres _ _ _, hargs _ hold, hvars _ hold, World.keptBut_mono (fun p hp => ⟨hp, ?_⟩) hk, fun _ => ?_⟩
  · rw [hps, List.mem_append] at hp
    exact Or.inr hp
  · have hlt := hW.lt
    obtain ⟨_, _, _, _, _, hz, hn⟩ := hW
    refine ⟨hok, _, _, ([] ++ pa) ++ pv, ⟨[] ++ pa, pv, trodAll_append (hargs _ (fun _ _ => rfl)) (hres _ _ _), hvars _ (fun _ _ => rfl), rfl, ?_, ?_⟩, ?_⟩
    · intro b off hp
      have hm : MemPlace.cell b off ∈ before := by rw [hps]; simpa using hp
      rw [hfz _ (hlt _ hm)]
      exact hz b off hm
    · intro ha
      have := hn ha
      rw [hps] at this
      simpa using this
    · intro p hp _
      rw [hps]
      simpa using hp

theorem law_frozen {W W' : World} (hB : Below W W') (a : Addr) (h : a.block < W.heap.size) : W'.frozen? a = W.frozen? a := by
  unfold World.frozen?
  rw [hB a.block h]

theorem law_kept {W W' : World} {may : MemPlace → Prop} (hos : W'.os = W.os) (hout : W'.output = W.output) (hB : Below W W') : W.keptBut W' may := by
  have h := World.keptBut_refl W may
  exact ⟨hos, hout, fun i hi => by rw [hB i hi]; exact h.2.2 i hi⟩

/-- A law's specification: true, whatever the input. -/
def TrueSpec (s : ChangeSpec) (n : Nat) : Prop := s.vars = [] ∧ ∀ (H : Type) (ds : List (DataW H)), ds.length = n → s.fn H (ds ++ []) = { results := [.lit (.bool true)], args := ds }

/-- THE ROW: a function whose contract says that it returns true. -/
theorem row_contract {H : Type} {enc : TypeId × Value → H} {P : Program} {f : FuncId} {fn : Func} {con : Con} {ts : List Ty} {tb : TypeId} {s : ChangeSpec} {W : World} {base : Nat} {args : Array Value} {ds gs : List (DataW H)} {before : List MemPlace}
    (hts : rdAll P ts fn.params.toList = true) (hrt : fn.resultTypes = #[tb]) (hb : P.underlying tb = some .bool) (hs : TrueSpec s ts.length)
    (hcon : ∀ x : HL ts, HL.ok ts x → ∃ C, con (HL.args ts x) [] = some (C, [.z .bool true], []) ∧ C) (hv : Valid (lawBase W) P f con)
    (hval : ∀ (j : Nat) t v, fn.params[j]? = some t → args[j]? = some v → Value.okWide P W .any base t v)
    (hW : DataW.Whole enc P fn.params.toList s.vars false W args.toList ds gs before) :
    Calls P f args W fun e W' => ∃ v, e = .returned v ∧ s.post enc P fn false true false false W args v W' := by
  have hW' := hW
  obtain ⟨p, q, hA, hV, rfl, hfz, hnd⟩ := hW
  rw [hs.1] at hV
  obtain ⟨rfl, rfl⟩ := trodVars_none hV
  obtain ⟨x, hx, ha, hl, again⟩ := open_all (b0 := base) ts hts (fun j t v h1 h2 => hval j t v (by simpa using h1) (by simpa using h2)) hA
  obtain ⟨C, hC1, hC2⟩ := hcon x hx
  refine (law_calls hv hC1 hC2 ha).mono fun e W' ⟨he, hos, hout, hsz, hB⟩ => ?_
  subst he
  have hspec := hs.2 H ds hl
  refine ⟨_, rfl, law_post (pa := p) (pv := []) hW' (fun _ _ _ => ?_) (fun sp hsp => ?_) (fun _ _ => ?_) rfl (law_kept hos hout hB) (law_frozen hB) (ok_one hrt rfl (okWide_bool_mk hb _))⟩
  · rw [hspec, hrt]; exact trodAll_cons_mk (shut_bool hb _) trodAll_mk0
  · rw [hspec]; exact again W' sp hB (fun z hz => hsp z (by simp [hz]))
  · rw [hspec, hs.1]; rfl

end Go.Cm
end

section
/- What the bounds of the arguments' types give the laws. -/
namespace Go.Cm
open Go

theorem int_of {k : IntKind} {x a b : Int} (h : (Ty.int k).okD x) (h1 : k.min = a) (h2 : k.max = b) : a ≤ x ∧ x ≤ b := by
  have h : k.min ≤ x ∧ x ≤ k.max := h
  rw [h1, h2] at h
  exact h

theorem u8_of {x : Int} (h : (Ty.int .u8).okD x) : 0 ≤ x ∧ x < 256 := by
  have := int_of (a := 0) (b := 255) h (by decide) (by decide); omega
theorem i64_of {x : Int} (h : (Ty.int .i64).okD x) : I64 x :=
  int_of h (by decide) (by decide)
theorem i32_of {x : Int} (h : (Ty.int .i32).okD x) : -2147483648 ≤ x ∧ x ≤ 2147483647 :=
  int_of h (by decide) (by decide)
theorem dok_of {d : Bool × List Int × Int} (h : (Ty.st (.pair .bool (.pair (.slice (.int .u8)) (.int .u8)))).okD d) : DOK d := by
  obtain ⟨_, ⟨_, h1⟩, h2⟩ := h
  exact ⟨fun c hc => u8_of (h1 c hc), u8_of h2⟩

end Go.Cm
end

section
/- A start that fits: the listed variables as the program lays them; the tables that the laws lean on. -/
namespace Go.Proofs.YtkgbdpmhdplddaaGreatDoor
open Go Go.Cm Go.Proofs Go.ChangeShapes Go.WideShapes Go.ChangeAt Go.RowKit Go.Deep Go.Joins
set_option maxRecDepth 100000

def litVals : DataW Unit → Array Value
  | .agg l => (l.map fun x => match x with
    | .lit (.int k n) => Value.int k n
    | _ => Value.bool false).toArray
  | _ => #[]
noncomputable def setG (h : Array Obj) (name : String) (cs : Array Value) : Array Obj := h.modify ((Tryz.prog.globalNamed name).getD 0) fun o => match o with
  | .cells _ t f => .cells cs t f
  | o => o
noncomputable def lawLow : Nat := (World.holding Tryz.prog default ⟨#[], #[], []⟩).heap.size
noncomputable def lawWorld (os : Os) : World :=
  let w0 := World.holding Tryz.prog os ⟨#[.cells #[.string { data := #[118, 97, 108, 117, 101, 32, 111, 117, 116, 32, 111, 102, 32, 114, 97, 110, 103, 101] }] 148, .cells #[.string { data := #[105, 110, 118, 97, 108, 105, 100, 32, 115, 121, 110, 116, 97, 120] }] 148], #[], []⟩
  { w0 with heap := (setG (setG (setG (setG (setG w0.heap "strconv.ErrRange" #[.iface 146 (.pointer (some ⟨lawLow + 0, 0, none⟩))]) "strconv.ErrSyntax" #[.iface 146 (.pointer (some ⟨lawLow + 1, 0, none⟩))]) "math/bits.deBruijn32tab" (litVals Rows.laid_math_bits_deBruijn32tab)) "math/bits.deBruijn64tab" (litVals Rows.laid_math_bits_deBruijn64tab)) "internal/strconv.uint64pow10" (litVals Rows.laid_internal_strconv_uint64pow10)) }

theorem pow_data : (Rows.laid_internal_strconv_uint64pow10 : DataW Unit) = Lib.tabData .u64 Lib.pow10Tab := by kernel_rfl
noncomputable def powGl : Nat := (Tryz.prog.globalNamed "internal/strconv.uint64pow10").getD 0
noncomputable def powTy : Nat := ((Tryz.prog.globals[powGl]?).map (·.type)).getD 0
noncomputable def powEl : Nat := match Tryz.prog.underlying powTy with
  | some (.array _ e) => e
  | _ => 0
theorem pow_g : Tryz.prog.globalNamed "internal/strconv.uint64pow10" = some powGl := by kernel_rfl
theorem pow_t : (Tryz.prog.globals[powGl]?).map (·.type) = some powTy := by kernel_rfl
theorem pow_u : Tryz.prog.underlying powTy = some (.array 20 powEl) := by kernel_rfl
theorem pow_e : Tryz.prog.underlying powEl = some (.int .u64) := by kernel_rfl
theorem pow_c : Tryz.prog.cellsOf powEl = 1 := by kernel_rfl
theorem pow_n : Tryz.prog.cellsOf powTy = 20 := by kernel_rfl
theorem pow_tab {l : List (String × DataW Unit)} {W : World} (h : laidMet Tryz.prog (("internal/strconv.uint64pow10", Rows.laid_internal_strconv_uint64pow10) :: l) W) : ∀ w, (lawBase W).On w → Lib.TabIs Tryz.prog w "internal/strconv.uint64pow10" .u64 Lib.pow10Tab := by
  intro w hw
  rw [pow_data] at h
  have ht := Lib.tabIs_of_head pow_g pow_t pow_u pow_e pow_c pow_n h
  unfold Lib.TabIs World.var? at ht ⊢
  rw [pow_g] at ht ⊢
  simp only [Option.bind_some] at ht ⊢
  by_cases hlt : powGl < W.heap.size
  · have he : w.heap[powGl]? = W.heap[powGl]? := hw.2 powGl hlt
    rw [he]; exact ht
  · rw [Array.getElem?_eq_none (by omega)] at ht; cases ht
end Go.Proofs.YtkgbdpmhdplddaaGreatDoor
end
