/- Merged by a program out of several texts. -/
import Derived.Test.YtcopdikdkkdlfaaDoorQ3
import Derived.OpenShut
import Derived.RowKit
import Derived.ChangeArms
import Derived.ChangeSame
import Derived.Deep.Slices
import Derived.ProofKit
import Derived.Deep.DeepHandedRow
import Derived.Test.YtcopdikdkkdlfaaDoorQ4
import Derived.Test.YtcopdikdkkdlfaaDoorCards
import Derived.Test.YtcopdikdkkdlfaaDoorTie
import Derived.Lib.LaidTab
import Derived.Stop.LaidErr
import Derived.Lib.SmallJoins
import Derived.KernelRfl
import Derived.Deep.DeepLaidRun
import Derived.Test.YtcopdikdkkdlfaaDoorProg
set_option linter.all false
set_option linter.unusedSimpArgs false
set_option linter.unusedVariables false

section
/- Reading typed data: what the reading of an argument gives, and that it reads so again behind a call that writes new blocks alone. No program is in sight. -/
namespace Go.Cm
open Go.RowKit Go.Deep Go.ChangeShapes Go.WideShapes

/-- Every block below is as it was. -/
def Below (W W' : World) : Prop := ∀ b, b < W.heap.size → W'.heap[b]? = W.heap[b]?

theorem Below.cell {W W' : World} (h : Below W W') {a : Addr} {v : Value} (hc : W.cell? a = some v) : W'.cell? a = some v := by
  rw [← hc]
  exact World.cell?_of_block (h a.block (block_lt_of_cell hc))

def rdOne (P : Program) (w : Nat) (r : TypeId → Bool) : Nat → List Field → Bool := fun off fs => match fs with
  | [f] => f.offset == off && P.cellsOf f.type == w && r f.type
  | _ => false
def rdBoth (P : Program) (w : Nat) (r : TypeId → Bool) : (TypeId → Bool) × (Nat → List Field → Bool) := (r, rdOne P w r)

/-- Does the program's type read as this one? The second: do these fields, from this place on? -/
def Ty.rd (P : Program) : Ty → (TypeId → Bool) × (Nat → List Field → Bool)
  | .int k => rdBoth P 1 fun T => match P.underlying T with
    | some (.int k') => decide (k' = k)
    | _ => false
  | .bool => rdBoth P 1 fun T => match P.underlying T with
    | some .bool => true
    | _ => false
  | .str => rdBoth P 1 fun T => match P.underlying T with
    | some .string => true
    | _ => false
  | .unit => (fun _ => false, fun _ _ => false)
  | .pair a b => (fun _ => false, fun off fs => match fs with
    | f :: r => f.offset == off && P.cellsOf f.type == a.w && (a.rd P).1 f.type && (b.rd P).2 (off + a.w) r
    | [] => false)
  | .st t => rdBoth P t.w fun T => match P.underlying T with
    | some (.struct fs) => P.cellsOf T == t.w && (t.rd P).2 0 fs.toList
    | _ => false
  | .arr n t => rdBoth P (n * t.w) fun T => match P.underlying T with
    | some (.array m E) => m == n && P.cellsOf E == t.w && P.cellsOf T == n * t.w && (t.rd P).1 E
    | _ => false
  | .slice t => rdBoth P 1 fun T => match P.underlying T with
    | some (.slice E) => P.cellsOf E == t.w && decide (0 < t.w) && (t.rd P).1 E
    | _ => false
  | .ptr _ => (fun _ => false, fun _ _ => false)
  | .opt _ => (fun _ => false, fun _ _ => false)
  | .func => (fun _ => false, fun _ _ => false)

/-- Data within the bounds of their type. -/
def Ty.okD : (t : Ty) → t.D → Prop
  | .int k, x => k.min ≤ x ∧ x ≤ k.max
  | .bool, _ => True
  | .str, x => x.length ≤ maxLen
  | .unit, _ => True
  | .pair a b, x => a.okD x.1 ∧ b.okD x.2
  | .st t, x => t.okD x
  | .arr n t, x => x.length = n ∧ ∀ y ∈ x, t.okD y
  | .slice t, x => x.length ≤ maxLen ∧ ∀ y ∈ x, t.okD y
  | .ptr t, x => t.okD x
  | .opt t, x => ∀ y, x = some y → t.okD y
  | .func, _ => True

section
variable {H : Type} (enc : TypeId × Value → H) (P : Program) (W : World)

/-- One reading of cells: data that lie so, and the same reading behind. -/
def Opens (t : Ty) (T : TypeId) (cs : List Value) (d : DataW H) (ps : List MemPlace) : Prop :=
  ∃ x : t.D, t.okD x ∧ t.rep (fun _ => False) W cs x ∧
    ∀ (W' : World) (sp : Nat → Bool), Below W W' → (∀ q ∈ ps, sp q.block = true) → ∃ n, DataW.trod enc P W' 0 sp true n T cs = some (d, ps)

theorem mapM_at {α β : Type} {f : α → Option β} : ∀ {l : List α} {xs : List β}, l.mapM f = some xs → xs.length = l.length ∧ ∀ (i : Nat) a, l[i]? = some a → f a = xs[i]?
  | [], xs, h => by simp at h; subst h; simp
  | a :: l, xs, h => by
    simp only [List.mapM_cons, Option.bind_eq_bind, Option.bind_eq_some_iff, Option.pure_def, Option.some.injEq] at h
    obtain ⟨y, hy, ys, hys, rfl⟩ := h
    obtain ⟨h1, h2⟩ := mapM_at hys
    refine ⟨by simp [h1], fun i b hb => ?_⟩
    cases i with
    | zero => simp at hb; subst hb; simpa using hy
    | succ i => simp at hb ⊢; exact h2 i b hb

theorem mapM_to {α β : Type} {f : α → Option β} : ∀ {l : List α} {xs : List β}, xs.length = l.length → (∀ (i : Nat) a, l[i]? = some a → f a = xs[i]?) → l.mapM f = some xs
  | [], xs, h, _ => by have := List.eq_nil_of_length_eq_zero h; subst this; rfl
  | a :: l, [], h, _ => by simp at h
  | a :: l, x :: xs, h, hf => by
    have h0 := hf 0 a rfl
    simp at h0
    have := mapM_to (f := f) (l := l) (xs := xs) (by simpa using h) (fun i b hb => by have := hf (i + 1) b (by simpa using hb); simpa using this)
    simp [List.mapM_cons, h0, this]

/-- Elements one after the other. -/
theorem repL_of {α : Type} {R : List Value → α → Prop} {ok : α → Prop} {w : Nat} : ∀ (n : Nat) (cs : List Value), cs.length = n * w → (∀ i, i < n → ∃ x, ok x ∧ R ((cs.drop (i * w)).take w) x) → ∃ xs : List α, xs.length = n ∧ (∀ x ∈ xs, ok x) ∧ repL R cs xs
  | 0, cs, h, _ => ⟨[], rfl, by simp, by simp [repL]; exact List.eq_nil_of_length_eq_zero (by omega)⟩
  | n + 1, cs, h, hx => by
    obtain ⟨x, h1, h2⟩ := hx 0 (by omega)
    simp only [Nat.zero_mul, List.drop_zero] at h2
    obtain ⟨xs, g1, g2, g3⟩ := repL_of (R := R) (ok := ok) (w := w) n (cs.drop w) (by rw [List.length_drop, h, Nat.succ_mul]; omega) (fun i hi => by
      obtain ⟨y, k1, k2⟩ := hx (i + 1) (by omega)
      refine ⟨y, k1, ?_⟩
      rw [List.drop_drop, show w + i * w = (i + 1) * w by rw [Nat.succ_mul]; omega]
      exact k2)
    refine ⟨x :: xs, by simp [g1], fun y hy => ?_, cs.take w, cs.drop w, (List.take_append_drop _ _).symm, h2, g3⟩
    rcases List.mem_cons.1 hy with rfl | hy
    · exact h1
    · exact g2 y hy

/-- Elements that lie in a block. -/
theorem lies_of {α : Type} {R : List Value → α → Prop} {ok : α → Prop} {w : Nat} {a : Addr} : ∀ (n : Nat), (∀ i, i < n → ∃ c, c.length = w ∧ (∀ j, j < w → W.cell? (a.add (i * w + j)) = c[j]?) ∧ ∃ x, ok x ∧ R c x) →
    ∃ (cells : List Value) (xs : List α), cells.length = n * w ∧ xs.length = n ∧ (∀ x ∈ xs, ok x) ∧ repL R cells xs ∧ ∀ k, k < n * w → W.cell? (a.add k) = cells[k]?
  | 0, _ => ⟨[], [], by simp, rfl, by simp, rfl, fun k hk => by simp at hk⟩
  | n + 1, h => by
    obtain ⟨cells, xs, h1, h2, h3, h4, h5⟩ := lies_of n (fun i hi => h i (by omega))
    obtain ⟨c, g1, g2, x, g3, g4⟩ := h n (by omega)
    refine ⟨cells ++ c, xs ++ [x], by rw [List.length_append, h1, g1, Nat.succ_mul], by simp [h2], fun y hy => ?_, repL_append h4 (repL_one g4), fun k hk => ?_⟩
    · rcases List.mem_append.1 hy with hy | hy
      · exact h3 y hy
      · simp at hy; subst hy; exact g3
    · by_cases hlt : k < n * w
      · rw [h5 k hlt, List.getElem?_append_left (by omega)]
      · rw [Nat.succ_mul] at hk
        rw [List.getElem?_append_right (by omega), h1, ← g2 (k - n * w) (by omega), show n * w + (k - n * w) = k by omega]

theorem cells_get {W : World} {b : Nat} {a : Addr} {n : Nat} {cs : List Value} (h : W.cells? b a n = some cs) : cs.length = n ∧ ∀ j, j < n → W.cell? (a.add j) = cs[j]? := by
  unfold World.cells? at h
  split at h
  · obtain ⟨h1, h2⟩ := mapM_at h
    refine ⟨by simpa using h1, fun j hj => h2 j j (by simp [hj])⟩
  · cases h

theorem cells_to {W : World} {a : Addr} {n : Nat} {cs : List Value} (h : cs.length = n) (hc : ∀ j, j < n → W.cell? (a.add j) = cs[j]?) : W.cells? 0 a n = some cs := by
  unfold World.cells?
  rw [if_pos (Nat.zero_le _)]
  exact mapM_to (by simpa using h) (fun i b hb => by
    obtain ⟨hi, e⟩ := List.getElem?_eq_some_iff.1 hb
    simp at hi e; subst e
    exact hc i hi)

theorem rd_ok (t : Ty) : (∀ T, (t.rd P).1 T = true → ∀ fuel cs d ps, DataW.trod enc P W 0 (fun _ => true) true fuel T cs = some (d, ps) → Opens enc P W t T cs d ps) := by
  have single : ∀ (u : Ty) (w : Nat), u.w = w → (∀ T, (u.rd P).1 T = true → ∀ fuel cs d ps, DataW.trod enc P W 0 (fun _ => true) true fuel T cs = some (d, ps) → Opens enc P W u T cs d ps) →
      ∀ off fs, rdOne P w (u.rd P).1 off fs = true → ∀ (fuel : Nat) (cs : List Value) (xs : List (DataW H × List MemPlace)), cs.length = off + u.w → fs.mapM (fun f => DataW.trod enc P W 0 (fun _ => true) true fuel f.type ((cs.drop f.offset).take (P.cellsOf f.type))) = some xs →
      ∃ x : u.D, u.okD x ∧ u.rep (fun _ => False) W (cs.drop off) x ∧ ∀ (W' : World) (sp : Nat → Bool), Below W W' → (∀ q ∈ xs.flatMap (·.2), sp q.block = true) → ∃ n, fs.mapM (fun f => DataW.trod enc P W' 0 sp true n f.type ((cs.drop f.offset).take (P.cellsOf f.type))) = some xs := by
    intro u w hw ih off fs hr fuel cs xs hl hm
    unfold rdOne at hr
    split at hr
    · rename_i f
      simp only [Bool.and_eq_true, beq_iff_eq] at hr
      obtain ⟨⟨h1, h2⟩, h3⟩ := hr
      rw [List.mapM_cons, Option.bind_eq_bind, Option.bind_eq_some_iff] at hm
      obtain ⟨⟨d, ps⟩, hd, hm⟩ := hm
      simp at hm
      subst hm
      have hcut : (cs.drop f.offset).take (P.cellsOf f.type) = cs.drop off := by
        rw [h1, h2]; exact List.take_of_length_le (by rw [List.length_drop]; omega)
      rw [hcut] at hd
      obtain ⟨x, g1, g2, g3⟩ := ih _ h3 _ _ _ _ hd
      refine ⟨x, g1, g2, fun W' sp hB hq => ?_⟩
      obtain ⟨n, hn⟩ := g3 W' sp hB (fun q hq' => hq q (by simpa using hq'))
      exact ⟨n, by simp [hcut, hn]⟩
    · cases hr
  suffices key : (∀ T, (t.rd P).1 T = true → ∀ fuel cs d ps, DataW.trod enc P W 0 (fun _ => true) true fuel T cs = some (d, ps) → Opens enc P W t T cs d ps) ∧
      ∀ off fs, (t.rd P).2 off fs = true → ∀ (fuel : Nat) (cs : List Value) (xs : List (DataW H × List MemPlace)), cs.length = off + t.w → fs.mapM (fun f => DataW.trod enc P W 0 (fun _ => true) true fuel f.type ((cs.drop f.offset).take (P.cellsOf f.type))) = some xs →
      ∃ x : t.D, t.okD x ∧ t.rep (fun _ => False) W (cs.drop off) x ∧ ∀ (W' : World) (sp : Nat → Bool), Below W W' → (∀ q ∈ xs.flatMap (·.2), sp q.block = true) → ∃ n, fs.mapM (fun f => DataW.trod enc P W' 0 sp true n f.type ((cs.drop f.offset).take (P.cellsOf f.type))) = some xs from key.1
  induction t with
  | int k =>
    have h : ∀ T, ((Ty.int k).rd P).1 T = true → ∀ fuel cs d ps, DataW.trod enc P W 0 (fun _ => true) true fuel T cs = some (d, ps) → Opens enc P W (.int k) T cs d ps := by
      intro T hT fuel cs d ps h
      simp only [Ty.rd, rdBoth] at hT
      split at hT
      · rename_i k' hu
        simp only [decide_eq_true_eq] at hT
        subst hT
        obtain ⟨z, rfl, he, hw⟩ := DataW.trod_int hu h
        cases he
        have h2 : IntKind.min k' ≤ z ∧ z ≤ IntKind.max k' := by simpa [Lit.wf, IntKind.has] using hw
        exact ⟨z, h2, rfl, fun W' sp _ _ => ⟨1, trod_int_mk 0 hu hw⟩⟩
      · cases hT
    exact ⟨h, single (.int k) 1 rfl h⟩
  | bool =>
    have h : ∀ T, (Ty.bool.rd P).1 T = true → ∀ fuel cs d ps, DataW.trod enc P W 0 (fun _ => true) true fuel T cs = some (d, ps) → Opens enc P W .bool T cs d ps := by
      intro T hT fuel cs d ps h
      simp only [Ty.rd, rdBoth] at hT
      split at hT
      · rename_i hu
        obtain ⟨z, rfl, he⟩ := DataW.trod_bool hu h
        cases he
        exact ⟨z, trivial, rfl, fun W' sp _ _ => ⟨1, by unfold DataW.trod; rw [hu]⟩⟩
      · cases hT
    exact ⟨h, single .bool 1 rfl h⟩
  | str =>
    have h : ∀ T, (Ty.str.rd P).1 T = true → ∀ fuel cs d ps, DataW.trod enc P W 0 (fun _ => true) true fuel T cs = some (d, ps) → Opens enc P W .str T cs d ps := by
      intro T hT fuel cs d ps h
      simp only [Ty.rd, rdBoth] at hT
      split at hT
      · rename_i hu
        obtain ⟨z, rfl, he, hz⟩ := DataW.trod_string hu h
        cases he
        refine ⟨z.data.toList, by simpa [Ty.okD] using hz, rfl, fun W' sp _ _ => shut_string_cell hu hz⟩
      · cases hT
    exact ⟨h, single .str 1 rfl h⟩
  | unit => exact ⟨fun T h => by simp [Ty.rd] at h, fun off fs h => by simp [Ty.rd] at h⟩
  | ptr t _ => exact ⟨fun T h => by simp [Ty.rd] at h, fun off fs h => by simp [Ty.rd] at h⟩
  | opt t _ => exact ⟨fun T h => by simp [Ty.rd] at h, fun off fs h => by simp [Ty.rd] at h⟩
  | func => exact ⟨fun T h => by simp [Ty.rd] at h, fun off fs h => by simp [Ty.rd] at h⟩
  | pair a b iha ihb =>
    refine ⟨fun T h => by simp [Ty.rd] at h, ?_⟩
    intro off fs hr fuel cs xs hl hm
    simp only [Ty.rd] at hr
    split at hr
    · rename_i f r
      simp only [Bool.and_eq_true, beq_iff_eq] at hr
      obtain ⟨⟨⟨h1, h2⟩, h3⟩, h4⟩ := hr
      rw [List.mapM_cons, Option.bind_eq_bind, Option.bind_eq_some_iff] at hm
      obtain ⟨⟨d, ps⟩, hd, hm⟩ := hm
      rw [Option.bind_eq_bind, Option.bind_eq_some_iff] at hm
      obtain ⟨ys, hys, hm⟩ := hm
      simp at hm
      subst hm
      rw [h1, h2] at hd
      simp only [Ty.w] at hl
      obtain ⟨x, g1, g2, g3⟩ := iha.1 _ h3 _ _ _ _ hd
      obtain ⟨y, k1, k2, k3⟩ := ihb.2 _ _ h4 _ _ _ (by omega) hys
      refine ⟨(x, y), ⟨g1, k1⟩, ⟨(cs.drop off).take a.w, cs.drop (off + a.w), ?_, g2, k2⟩, fun W' sp hB hq => ?_⟩
      · rw [← List.drop_drop, List.take_append_drop]
      · obtain ⟨n, hn⟩ := g3 W' sp hB (fun q hq' => hq q (by simp [hq']))
        obtain ⟨m, hm⟩ := k3 W' sp hB (fun q hq' => hq q (by rw [List.flatMap_cons]; exact List.mem_append_right _ hq'))
        refine ⟨max n m, ?_⟩
        rw [List.mapM_cons, h1, h2, DataW.trod_le (Nat.le_max_left n m) hn]
        have : r.mapM (fun f => DataW.trod enc P W' 0 sp true (max n m) f.type ((cs.drop f.offset).take (P.cellsOf f.type))) = some ys := by
          obtain ⟨q1, q2⟩ := mapM_at hm
          refine mapM_to q1 fun i f hf => ?_
          have hi : i < ys.length := by rw [q1]; exact (List.getElem?_eq_some_iff.1 hf).1
          have := q2 i f hf
          rw [List.getElem?_eq_getElem hi] at this ⊢
          exact DataW.trod_le (Nat.le_max_right n m) this
        simp [this]
    · cases hr
  | st t ih =>
    have h : ∀ T, ((Ty.st t).rd P).1 T = true → ∀ fuel cs d ps, DataW.trod enc P W 0 (fun _ => true) true fuel T cs = some (d, ps) → Opens enc P W (.st t) T cs d ps := by
      intro T hT fuel cs d ps h
      simp only [Ty.rd, rdBoth] at hT
      split at hT
      · rename_i fs hu
        simp only [Bool.and_eq_true, beq_iff_eq] at hT
        obtain ⟨xs, n, rfl, he, hl, hxl, hx⟩ := DataW.trod_struct hu h
        cases he
        obtain ⟨x, g1, g2, g3⟩ := ih.2 0 _ hT.2 n cs xs (by rw [hl, hT.1]; omega) (mapM_to (by rw [hxl]; rfl) (fun i f hf => hx i f (by simpa using hf)))
        refine ⟨x, g1, (show t.rep (fun _ => False) W cs x by simpa using g2), fun W' sp hB hq => ?_⟩
        obtain ⟨m, hm⟩ := g3 W' sp hB hq
        exact ⟨m + 1, trod_struct_mk hu hl hm⟩
      · cases hT
    exact ⟨h, single (.st t) t.w rfl h⟩
  | arr n t ih =>
    have h : ∀ T, ((Ty.arr n t).rd P).1 T = true → ∀ fuel cs d ps, DataW.trod enc P W 0 (fun _ => true) true fuel T cs = some (d, ps) → Opens enc P W (.arr n t) T cs d ps := by
      intro T hT fuel cs d ps h
      simp only [Ty.rd, rdBoth] at hT
      split at hT
      · rename_i m E hu
        simp only [Bool.and_eq_true, beq_iff_eq] at hT
        obtain ⟨⟨⟨rfl, h2⟩, h3⟩, h4⟩ := hT
        obtain ⟨xs, k, rfl, he, hl, hxl, hx⟩ := DataW.trod_array hu h
        cases he
        have each : ∀ i, i < m → Opens enc P W t E ((cs.drop (i * t.w)).take t.w) ((xs.map (·.1)).getD i .nil) ((xs.map (·.2)).getD i []) := by
          intro i hi
          have := hx i hi
          rw [h2, List.getElem?_eq_getElem (by omega)] at this
          refine ih.1 E h4 k _ _ _ ?_
          rw [this]
          simp [List.getD_eq_getElem?_getD, List.getElem?_eq_getElem (show i < xs.length by omega)]
        obtain ⟨ys, q1, q2, q3⟩ := repL_of (R := fun c y => t.rep (fun _ => False) W c y) (ok := t.okD) m cs (by rw [hl, h3]) (fun i hi => by obtain ⟨x, e1, e2, _⟩ := each i hi; exact ⟨x, e1, e2⟩)
        refine ⟨ys, ⟨q1, q2⟩, ⟨q1, q3⟩, fun W' sp hB hq => ?_⟩
        obtain ⟨f, hf⟩ := fuel_lt (n := m) (q := fun i f => DataW.trod enc P W' 0 sp true f E ((cs.drop (i * t.w)).take t.w) = xs[i]? ∧ i < xs.length) (fun i a b hab hi => by
            cases hx' : xs[i]? with
            | none => exact absurd hi.2 (by rw [List.getElem?_eq_none_iff] at hx'; omega)
            | some y => rw [hx'] at hi; exact ⟨DataW.trod_le hab hi.1, hi.2⟩) (fun i hi => by
          obtain ⟨_, _, _, e3⟩ := each i hi
          have hil : i < xs.length := by omega
          obtain ⟨f, hf⟩ := e3 W' sp hB (fun q hq' => hq q (by
            rw [List.mem_flatMap]
            refine ⟨xs[i], List.getElem_mem hil, ?_⟩
            simpa [List.getD_eq_getElem?_getD, List.getElem?_eq_getElem hil] using hq'))
          refine ⟨f, ?_, hil⟩
          rw [hf, List.getElem?_eq_getElem hil]
          simp [List.getD_eq_getElem?_getD, List.getElem?_eq_getElem hil])
        refine ⟨f + 1, ?_⟩
        have hmm : (List.range m).mapM (fun i => DataW.trod enc P W' 0 sp true f E ((cs.drop (i * t.w)).take t.w)) = some xs := mapM_to (by simpa using hxl) (fun i b hb => by
          obtain ⟨hi, e⟩ := List.getElem?_eq_some_iff.1 hb
          simp at hi e; subst e
          exact (hf i hi).1)
        unfold DataW.trod
        rw [hu]
        simp only [h2, hl, hmm, if_true, Option.map_some]
      · cases hT
    exact ⟨h, single (.arr n t) (n * t.w) rfl h⟩
  | slice t ih =>
    have h : ∀ T, ((Ty.slice t).rd P).1 T = true → ∀ fuel cs d ps, DataW.trod enc P W 0 (fun _ => true) true fuel T cs = some (d, ps) → Opens enc P W (.slice t) T cs d ps := by
      intro T hT fuel cs d ps h
      simp only [Ty.rd, rdBoth] at hT
      split at hT
      · rename_i E hu
        simp only [Bool.and_eq_true, beq_iff_eq, decide_eq_true_eq] at hT
        obtain ⟨⟨h1, h2⟩, h3⟩ := hT
        rcases open_slice hu h with ⟨rfl, he⟩ | ⟨a, len, cap, m, k, D, Pl, rfl, hb, hl, hm, he1, he, hx⟩
        · cases he
          exact ⟨[], ⟨by simp, by simp⟩, .inl ⟨rfl, rfl⟩, fun W' sp _ _ => ⟨1, by unfold DataW.trod; rw [hu]; rfl⟩⟩
        · cases he
          simp only [if_true] at he1
          subst he1
          rw [h1] at hx
          have each : ∀ i, i < m → ∃ c, c.length = t.w ∧ (∀ j, j < t.w → W.cell? (a.add (i * t.w + j)) = c[j]?) ∧ Opens enc P W t E c (D i) (Pl i) := by
            intro i hi
            obtain ⟨c, hc, hd⟩ := hx i hi
            obtain ⟨g1, g2⟩ := cells_get hc
            exact ⟨c, g1, fun j hj => by rw [← g2 j hj, add_add], ih.1 E h3 k _ _ _ hd⟩
          obtain ⟨cells, ys, q1, q2, q3, q4, q5⟩ := lies_of W (R := fun c y => t.rep (fun _ => False) W c y) (ok := t.okD) (a := a) len (fun i hi => by
            obtain ⟨c, e1, e2, x, e3, e4, _⟩ := each i (by omega)
            exact ⟨c, e1, e2, x, e3, e4⟩)
          obtain ⟨b, o, p⟩ := a
          have hp : 0 < m → p = none := by
            intro hlen
            obtain ⟨c, e1, e2, _⟩ := each 0 hlen
            have := e2 0 h2
            rw [List.getElem?_eq_getElem (by omega)] at this
            simp only [Nat.zero_mul, Nat.add_zero] at this
            unfold World.cell? Addr.add at this
            split at this
            · cases p with
              | none => rfl
              | some _ => simp at this
            · cases this
          have hne : ys ≠ [] → p = none := fun h => hp (by cases ys with
            | nil => exact absurd rfl h
            | cons y ys => simp at q2; omega)
          refine ⟨ys, ⟨by omega, q3⟩, .inr ⟨b, o, p, m, cells, by rw [q2], hne, by omega, hm, q4, fun _ h => h, fun j hj => ?_⟩, fun W' sp hB hq => ?_⟩
          · have hys : ys ≠ [] := by
              intro e; subst e
              have e : cells = [] := q4
              subst e; simp at hj
            obtain rfl := hne hys
            have := q5 j (by omega)
            rw [← this, addr_add]
            simp
          · by_cases h0 : m = 0
            · subst h0
              have hlen : len = 0 := by omega
              subst hlen
              refine ⟨1, ?_⟩
              unfold DataW.trod
              rw [hu]
              simp [MemPlace.row, hm]
            · have hs : sp b = true := hq (.cell b o) (by
                simp only [MemPlace.row, List.mem_append, List.mem_map, List.mem_range]
                exact .inl ⟨0, by rw [h1]; exact Nat.mul_pos (by omega) h2, by simp⟩)
              have := shut_slice_whole_cells (enc := enc) (w := W') (base := 0) (spare := sp) (held := true) (a := ⟨b, o, p⟩) hu hb hl hm hs D Pl (fun i hi => by
                obtain ⟨c, e1, e2, x, e3, e4, e5⟩ := each i hi
                obtain ⟨n, hn⟩ := e5 W' sp hB (fun q hq' => hq q (by
                  rw [List.mem_append]; right
                  rw [List.mem_flatMap]; exact ⟨i, by simpa using hi, hq'⟩))
                refine ⟨c, n, ?_, hn⟩
                rw [h1]
                refine cells_to e1 fun j hj => ?_
                rw [add_add]
                have := e2 j hj
                rw [List.getElem?_eq_getElem (by omega)] at this ⊢
                exact hB.cell this)
              exact this
      · cases hT
    exact ⟨h, single (.slice t) 1 rfl h⟩

end
end Go.Cm
end

section
/- A law's row out of its function's contract: for laws of any typed data. No program is in sight. -/
namespace Go.Cm
open Go.RowKit Go.Deep Go.ChangeShapes Go.WideShapes Go.ChangeAt

/-- A law's arguments. -/
def HL : List Ty → Type
  | [] => Unit
  | t :: ts => t.D × HL ts
def HL.args : (ts : List Ty) → HL ts → List LV
  | [], _ => []
  | t :: ts, x => .z t x.1 :: HL.args ts x.2
def HL.ok : (ts : List Ty) → HL ts → Prop
  | [], _ => True
  | t :: ts, x => t.okD x.1 ∧ HL.ok ts x.2

theorem agg_of {P : Program} {W : World} {r : Reach} {b0 : Nat} {T : TypeId} {v : Value} (hv : Value.okWide P W r b0 T v) : ∀ {t : Ty}, (t.rd P).1 T = true → isAggV v = t.isAgg
  | .int k, h => by
    simp only [Ty.rd, rdBoth] at h
    split at h
    · rename_i hu; unfold Value.okWide at hv; rw [hu] at hv; simp only at hv; unfold Cell.okWide at hv; rw [hu] at hv
      cases v <;> simp_all [Cell.ok, isAggV, Ty.isAgg]
    · cases h
  | .bool, h => by
    simp only [Ty.rd, rdBoth] at h
    split at h
    · rename_i hu; unfold Value.okWide at hv; rw [hu] at hv; simp only at hv; unfold Cell.okWide at hv; rw [hu] at hv
      cases v <;> simp_all [Cell.ok, isAggV, Ty.isAgg]
    · cases h
  | .str, h => by
    simp only [Ty.rd, rdBoth] at h
    split at h
    · rename_i hu; unfold Value.okWide at hv; rw [hu] at hv; simp only at hv; unfold Cell.okWide at hv; rw [hu] at hv
      cases v <;> simp_all [Cell.ok, isAggV, Ty.isAgg]
    · cases h
  | .slice t, h => by
    simp only [Ty.rd, rdBoth] at h
    split at h
    · rename_i hu; unfold Value.okWide at hv; rw [hu] at hv; simp only at hv; unfold Cell.okWide at hv; rw [hu] at hv
      cases v <;> simp_all [Cell.ok, isAggV, Ty.isAgg]
    · cases h
  | .st t, h => by
    simp only [Ty.rd, rdBoth] at h
    split at h
    · rename_i hu; unfold Value.okWide at hv; rw [hu] at hv; simp only at hv
      obtain ⟨cs, rfl, _⟩ := hv; rfl
    · cases h
  | .arr n t, h => by
    simp only [Ty.rd, rdBoth] at h
    split at h
    · rename_i hu; unfold Value.okWide at hv; rw [hu] at hv; simp only at hv
      obtain ⟨cs, rfl, _⟩ := hv; rfl
    · cases h
  | .unit, h => by simp [Ty.rd] at h
  | .pair _ _, h => by simp [Ty.rd] at h
  | .ptr _, h => by simp [Ty.rd] at h
  | .opt _, h => by simp [Ty.rd] at h
  | .func, h => by simp [Ty.rd] at h

/-- Do these types read as those? -/
def rdAll (P : Program) : List Ty → List TypeId → Bool
  | [], [] => true
  | t :: ts, T :: Ts => (t.rd P).1 T && rdAll P ts Ts
  | _, _ => false

theorem open_all {H : Type} {enc : TypeId × Value → H} {P : Program} {W : World} {b0 : Nat} : ∀ (ts : List Ty) {Ts : List TypeId} {vs : List Value} {ds : List (DataW H)} {p : List MemPlace}, rdAll P ts Ts = true →
    (∀ (j : Nat) t v, Ts[j]? = some t → vs[j]? = some v → Value.okWide P W .any b0 t v) → DataW.TrodAll enc P W 0 (fun _ => true) true Ts vs ds p →
    ∃ x : HL ts, HL.ok ts x ∧ All2 (RepL (fun _ => False) W (fun _ => undef)) (HL.args ts x) vs ∧ ds.length = ts.length ∧
      ∀ (W' : World) (sp : Nat → Bool), Below W W' → (∀ q ∈ p, sp q.block = true) → DataW.TrodAll enc P W' 0 sp true Ts vs ds p
  | [], [], vs, ds, p, _, _, h => by
    obtain ⟨rfl, rfl, rfl⟩ := trodAll_nil h
    exact ⟨(), trivial, trivial, rfl, fun _ _ _ _ => rfl⟩
  | t :: ts, T :: Ts, vs, ds, p, hr, hv, h => by
    simp only [rdAll, Bool.and_eq_true] at hr
    obtain ⟨v, vs', d, ds', p0, q, rfl, rfl, rfl, ⟨n, h0⟩, hs⟩ := trodAll_cons h
    obtain ⟨x, g1, g2, g3⟩ := rd_ok enc P W t T hr.1 n _ _ _ h0
    obtain ⟨y, k1, k2, k3, k4⟩ := open_all ts hr.2 (fun j t v h1 h2 => hv (j + 1) t v (by simpa using h1) (by simpa using h2)) hs
    refine ⟨(x, y), ⟨g1, k1⟩, ⟨⟨agg_of (hv 0 T v rfl rfl) hr.1, g2⟩, k2⟩, by simp [k3], fun W' sp hB hq => ?_⟩
    obtain ⟨m, hm⟩ := g3 W' sp hB (fun q hq' => hq q (by simp [hq']))
    exact trodAll_cons_mk ⟨m, hm⟩ (k4 W' sp hB (fun q hq' => hq q (by simp [hq'])))
  | [], _ :: _, _, _, _, hr, _, _ => by simp [rdAll] at hr
  | _ :: _, [], _, _, _, hr, _, _ => by simp [rdAll] at hr

/-- What lies below a call. -/
def lawBase (W : World) : Base := ⟨W.heap.size, fun b => W.heap[b]?⟩

theorem lawBase_on (W : World) : (lawBase W).On W := ⟨Nat.le_refl _, fun _ _ => rfl⟩

/-- A law that returns true under its contract. -/
theorem law_calls {P : Program} {f : FuncId} {con : Con} {W : World} {args : List LV} {vals : Array Value} (hv : Valid (lawBase W) P f con) {C : Prop} (hc : con args [] = some (C, [.z .bool true], [])) (hC : C)
    (ha : All2 (RepL (fun _ => False) W (fun _ => undef)) args vals.toList) :
    Calls P f vals W fun e W' => e = .returned (.bool true) ∧ W'.os = W.os ∧ W'.output = W.output ∧ W.heap.size ≤ W'.heap.size ∧ Below W W' := by
  refine (hv args [] C _ [] hc hC (fun _ => False) W vals (fun _ => undef) (lawBase_on W) (fun b hb => by obtain ⟨p, hp, -⟩ := hb; simp [ioList] at hp) (fun _ h => h.elim) (fun _ h => h.elim) ?_ (fun p hp => by simp [ioList] at hp) List.Pairwise.nil).mono ?_
  · refine ha.imp fun x v _ hx => RepL_move (fun b _ hb => ?_) (Stays.refl _ _) (fun _ _ => rfl) hx
    rcases hb with hb | ⟨p, hp, -⟩
    · exact hb
    · simp [ioList] at hp
  · rintro e W' ⟨vs, ρ1, rfl, -, hb, -, hr, -⟩
    match vs, hr with
    | [v], hr =>
      have h1 : RepL _ W' (fun _ => undef) (.z .bool true) v := hr.1
      have h2 : v.cells.toList = [.bool true] := h1.2
      have h3 : v = .bool true := by
        cases v with
        | agg cs => have := h1.1; cases this
        | _ => simp [Value.cells] at h2 <;> simp [h2]
      subst h3
      refine ⟨rfl, hb.os, hb.output, hb.size, fun b hlt => hb.block b hlt fun hm => ?_⟩
      rcases hm with hm | ⟨p, hp, -⟩
      · omega
      · simp [ioList] at hp

theorem law_post {H : Type} {enc : TypeId × Value → H} {P : Program} {f : Func} {s : ChangeSpec} {apart fresh handsOn again : Bool} {W W' : World} {args : Array Value} {v : Value} {ds gs : List (DataW H)} {before pa pv : List MemPlace}
    (hW : DataW.Whole enc P f.params.toList s.vars apart W args.toList ds gs before)
    (hres : ∀ (b : Nat) (sp : Nat → Bool) (hd : Bool), DataW.TrodAll enc P W' b sp hd f.resultTypes.toList (v.resultList f.resultTypes.size) (s.fn H (ds ++ gs)).results [])
    (hargs : ∀ sp : Nat → Bool, (∀ p ∈ before, sp p.block = true) → DataW.TrodAll enc P W' 0 sp true f.params.toList args.toList (s.fn H (ds ++ gs)).args pa)
    (hvars : ∀ sp : Nat → Bool, (∀ p ∈ before, sp p.block = true) → DataW.TrodVars enc P W' sp s.vars (s.fn H (ds ++ gs)).vars pv)
    (hps : before = pa ++ pv) (hk : W.keptBut W' (· ∈ before)) (hfz : ∀ a : Addr, a.block < W.heap.size → W'.frozen? a = W.frozen? a)
    (hok : ∀ (j : Nat) (t : TypeId) (r : Value), f.resultTypes[j]? = some t → (v.resultList f.resultTypes.size)[j]? = some r → Value.okWide P W' .any 0 t r) :
    s.post enc P f apart fresh handsOn again W args v W' := by
  have hold : ∀ p ∈ before, (fun b => decide (b < W.heap.size)) p.block = true := fun p hp => by simpa using hW.lt p hp
  refine ⟨ds, gs, before, [], pa, pv, hW, hres _ _ _, hargs _ hold, hvars _ hold, World.keptBut_mono (fun p hp => ⟨hp, ?_⟩) hk, fun _ => ?_⟩
  · rw [hps, List.mem_append] at hp
    exact Or.inr hp
  · have hlt := hW.lt
    obtain ⟨_, _, _, _, _, hz, hn⟩ := hW
    refine ⟨hok, _, _, ([] ++ pa) ++ pv, ⟨[] ++ pa, pv, trodAll_append (hargs _ (fun _ _ => rfl)) (hres _ _ _), hvars _ (fun _ _ => rfl), rfl, ?_, ?_⟩, ?_⟩
    · intro b off hp
      have hm : MemPlace.cell b off ∈ before := by rw [hps]; simpa using hp
      rw [hfz _ (hlt _ hm)]
      exact hz b off hm
    · intro ha
      have := hn ha
      rw [hps] at this
      simpa using this
    · intro p hp _
      rw [hps]
      simpa using hp

theorem law_frozen {W W' : World} (hB : Below W W') (a : Addr) (h : a.block < W.heap.size) : W'.frozen? a = W.frozen? a := by
  unfold World.frozen?
  rw [hB a.block h]

theorem law_kept {W W' : World} {may : MemPlace → Prop} (hos : W'.os = W.os) (hout : W'.output = W.output) (hB : Below W W') : W.keptBut W' may := by
  have h := World.keptBut_refl W may
  exact ⟨hos, hout, fun i hi => by rw [hB i hi]; exact h.2.2 i hi⟩

/-- A law's specification: true, whatever the input. -/
def TrueSpec (s : ChangeSpec) (n : Nat) : Prop := s.vars = [] ∧ ∀ (H : Type) (ds : List (DataW H)), ds.length = n → s.fn H (ds ++ []) = { results := [.lit (.bool true)], args := ds }

/-- THE ROW: a function whose contract says that it returns true. -/
theorem row_contract {H : Type} {enc : TypeId × Value → H} {P : Program} {f : FuncId} {fn : Func} {con : Con} {ts : List Ty} {tb : TypeId} {s : ChangeSpec} {W : World} {base : Nat} {args : Array Value} {ds gs : List (DataW H)} {before : List MemPlace}
    (hts : rdAll P ts fn.params.toList = true) (hrt : fn.resultTypes = #[tb]) (hb : P.underlying tb = some .bool) (hs : TrueSpec s ts.length)
    (hcon : ∀ x : HL ts, HL.ok ts x → ∃ C, con (HL.args ts x) [] = some (C, [.z .bool true], []) ∧ C) (hv : Valid (lawBase W) P f con)
    (hval : ∀ (j : Nat) t v, fn.params[j]? = some t → args[j]? = some v → Value.okWide P W .any base t v)
    (hW : DataW.Whole enc P fn.params.toList s.vars false W args.toList ds gs before) :
    Calls P f args W fun e W' => ∃ v, e = .returned v ∧ s.post enc P fn false true false false W args v W' := by
  have hW' := hW
  obtain ⟨p, q, hA, hV, rfl, hfz, hnd⟩ := hW
  rw [hs.1] at hV
  obtain ⟨rfl, rfl⟩ := trodVars_none hV
  obtain ⟨x, hx, ha, hl, again⟩ := open_all (b0 := base) ts hts (fun j t v h1 h2 => hval j t v (by simpa using h1) (by simpa using h2)) hA
  obtain ⟨C, hC1, hC2⟩ := hcon x hx
  refine (law_calls hv hC1 hC2 ha).mono fun e W' ⟨he, hos, hout, hsz, hB⟩ => ?_
  subst he
  have hspec := hs.2 H ds hl
  refine ⟨_, rfl, law_post (pa := p) (pv := []) hW' (fun _ _ _ => ?_) (fun sp hsp => ?_) (fun _ _ => ?_) rfl (law_kept hos hout hB) (law_frozen hB) (ok_one hrt rfl (okWide_bool_mk hb _))⟩
  · rw [hspec, hrt]; exact trodAll_cons_mk (shut_bool hb _) trodAll_mk0
  · rw [hspec]; exact again W' sp hB (fun z hz => hsp z (by simp [hz]))
  · rw [hspec, hs.1]; rfl

end Go.Cm
end

section
/- A start that fits: the listed variables as the program lays them; the tables that the laws lean on. -/
namespace Go.Proofs.YtcopdikdkkdlfaaDoor
open Go Go.Cm Go.Proofs Go.ChangeShapes Go.WideShapes Go.ChangeAt Go.RowKit Go.Deep Go.Joins
set_option maxRecDepth 100000

def litVals : DataW Unit → Array Value
  | .agg l => (l.map fun x => match x with
    | .lit (.int k n) => Value.int k n
    | _ => Value.bool false).toArray
  | _ => #[]
noncomputable def setG (h : Array Obj) (name : String) (cs : Array Value) : Array Obj := h.modify ((Tryd.prog.globalNamed name).getD 0) fun o => match o with
  | .cells _ t f => .cells cs t f
  | o => o
noncomputable def lawLow : Nat := (World.holding Tryd.prog default ⟨#[], #[], []⟩).heap.size
noncomputable def lawWorld (os : Os) : World :=
  let w0 := World.holding Tryd.prog os ⟨#[], #[], []⟩
  { w0 with heap := (setG w0.heap "math/bits.deBruijn64tab" (litVals Rows.laid_math_bits_deBruijn64tab)) }

theorem ctz_data : (Rows.laid_math_bits_deBruijn64tab : DataW Unit) = Lib.tabData .u8 (Lib.deBruijn64tab.map fun (n : Nat) => (n : Int)) := by kernel_rfl
noncomputable def ctzTy : Nat := ((Tryd.prog.globals[0]?).map (·.type)).getD 0
noncomputable def ctzEl : Nat := match Tryd.prog.underlying ctzTy with
  | some (.array _ e) => e
  | _ => 0
theorem ctz_g : Tryd.prog.globalNamed "math/bits.deBruijn64tab" = some 0 := by kernel_rfl
theorem ctz_t : (Tryd.prog.globals[0]?).map (·.type) = some ctzTy := by kernel_rfl
theorem ctz_u : Tryd.prog.underlying ctzTy = some (.array 64 ctzEl) := by kernel_rfl
theorem ctz_e : Tryd.prog.underlying ctzEl = some (.int .u8) := by kernel_rfl
theorem ctz_c : Tryd.prog.cellsOf ctzEl = 1 := by kernel_rfl
theorem ctz_n : Tryd.prog.cellsOf ctzTy = 64 := by kernel_rfl
theorem ctz_tab {l : List (String × DataW Unit)} {W : World} (h : laidMet Tryd.prog (("math/bits.deBruijn64tab", Rows.laid_math_bits_deBruijn64tab) :: l) W) : ∀ w, (lawBase W).On w → CtzTab w := by
  intro w hw
  rw [ctz_data] at h
  have ht := Lib.tabIs_of_head ctz_g ctz_t ctz_u ctz_e ctz_c ctz_n h
  intro j hj
  have hc := ht.cell ctz_g j (by simpa using hj)
  have hlt : (0 : Nat) < W.heap.size := by
    unfold World.cell? at hc
    rcases Nat.lt_or_ge 0 W.heap.size with h0 | h0
    · exact h0
    · rw [Array.getElem?_eq_none h0] at hc; cases hc
  have he : w.heap[0]? = W.heap[0]? := hw.2 0 hlt
  refine (World.cell?_of_block (a := ⟨0, j, none⟩) he).trans (hc.trans ?_)
  simp [List.getD_eq_getElem?_getD, List.getElem?_map]
  cases Lib.deBruijn64tab[j]? <;> rfl
end Go.Proofs.YtcopdikdkkdlfaaDoor
end

section
/- What the bounds of the arguments' types give the laws on graphs. -/
namespace Go.Cm.Gr
open Go Go.Cm
theorem int_of {k : IntKind} {x a b : Int} (h : (Ty.int k).okD x) (h1 : k.min = a) (h2 : k.max = b) : a ≤ x ∧ x ≤ b := by
  have h : k.min ≤ x ∧ x ≤ k.max := h
  rw [h1, h2] at h
  exact h
theorem u8_of {x : Int} (h : (Ty.int .u8).okD x) : 0 ≤ x ∧ x < 256 := by
  have := int_of (a := 0) (b := 255) h (by decide) (by decide); omega
theorem u16_of {x : Int} (h : (Ty.int .u16).okD x) : 0 ≤ x ∧ x < 65536 := by
  have := int_of (a := 0) (b := 65535) h (by decide) (by decide); omega
theorem u64_of {x : Int} (h : (Ty.int .u64).okD x) : U64 x := by
  have := int_of (a := 0) (b := 18446744073709551615) h (by decide) (by decide); exact ⟨this.1, by omega⟩
theorem draft_of {d : Dft} (h : (Ty.st (.pair (.int .u8) (.pair (.slice (.arr 2 (.int .u8))) .bool))).okD d) : Dok d := by
  obtain ⟨h0, ⟨_, h1⟩, _⟩ := h
  exact ⟨u8_of h0, fun e he => ⟨(h1 e he).1, fun x hx => u8_of ((h1 e he).2 x hx)⟩⟩
end Go.Cm.Gr
end

section
/- The functions of the package graph, one after the other: each meets its contract. -/
set_option linter.unusedSimpArgs false
set_option linter.unusedVariables false
set_option maxRecDepth 100000
namespace Go.Proofs.YtcopdikdkkdlfaaDoor
open Go Go.Cm Go.Cm.Gr Go.Proofs

def tab25 (B : Base) : Tab := { types := [(3, (.int .i64)), (27, (.slice (.slice (.int .i64)))), (36, (.slice (.int .i64)))], elems := [], cons := [], hint := [], N := 60, base := B }
theorem good25 {B : Base} (hB : Tabs B) : MGood Tryd.prog (tab25 B) := ⟨⟨types_cons ty3 (types_cons ty27 (types_cons ty36 (types_nil))), elems_nil, by simp only [tab25, ioB]; omega⟩, cons_nil rfl, by kernel_rfl⟩
def cRight : Con := fun l os => match l, os with
  | [.z (.slice (.slice (.int .i64))) g], [] => some (g.length ≤ 1000000 ∧ (∀ r ∈ g, r.length ≤ 1000000), [.z .bool (okG g)], [])
  | _, _ => none

theorem valid25 {B : Base} (hB : Tabs B) : Valid B Tryd.prog 25 cRight := by
  refine valid_of_J (T := tab25 B) (good25 hB).tab Tryd.func25 rfl rfl rfl ?_
  intro args os C rs os' hc hC
  unfold cRight at hc
  split at hc
  case h_2 => cases hc
  rename_i g
  cases hc
  refine ⟨by simp only [List.length_cons, List.length_nil, tab25]; omega, rfl, ?_⟩
  intro X hP hT hr
  have hG : MGood X.P X.T := by rw [hP, hT]; exact good25 hB
  unfold tab25 at hT
  have hX := Bool.not_true
  simp only [Tryd.f25, argEnv, ioList, ioB]
  refine r_seq ?_
  refine q_region hG ?_ ?_ -- R0
  · first | trivial | omega | (simp; done) | (simp; omega)
  refine k_seq ?_
  refine r_seq ?_
  refine r_seq ?_
  refine q_region hG ?_ ?_ -- R1
  · first | trivial | omega | (simp; done) | (simp; omega)
  refine k_seq ?_
  refine q_cond ?_ ?_
  · intro hb0
    simp only [Bool.or_eq_true, Bool.or_eq_false_iff, decide_eq_true_eq, decide_eq_false_iff_not] at hb0
    refine r_seq ?_
    refine q_region hG ?_ ?_ -- R2
    · first | trivial | omega | (simp; done) | (simp; omega)
    refine k_seq ?_
    refine r_ret ?_
    refine k_seq_ret ?_
    refine ⟨[], ?_⟩
    simp only [hT, tab25, mr0, mr1, mr2, isNilP, Nat.reduceLT, Nat.reduceEqDiff, Nat.reduceAdd, Nat.reduceMul, Nat.reduceSub, Nat.reduceLeDiff, Nat.reduceBEq, Nat.reduceBNe, reduceIte, reduceDIte, reduceCtorEq]
    exact (ok_not (by omega)).symm
  · intro hb0
    simp only [Bool.or_eq_true, Bool.or_eq_false_iff, decide_eq_true_eq, decide_eq_false_iff_not] at hb0
    refine r_skip ?_
    refine k_seq ?_
    refine r_seq ?_
    refine r_seq ?_
    refine q_region hG ?_ ?_ -- R3
    · first | trivial | omega | (simp; done) | (simp; omega)
    refine k_seq ?_
    refine j_block ?_
    refine j_loop (fun (z : Nat) => (⟨[(0, .l (.z (.slice (.slice (.int .i64))) g)), (2, .l (.z .bool false)), (3, .l (.z (.int .i64) (z : Int)))], []⟩ : AState)) (fun z => z ≤ g.length ∧ (g.take z).all (okRow g.length (-1)) = true) (fun z => g.length - z) 0 ?_ ?_ ?_
    · simp only [ml0, ml1, Nat.reduceLT, Nat.reduceEqDiff, Nat.reduceAdd, Nat.reduceMul, Nat.reduceSub, Nat.reduceLeDiff, Nat.reduceBEq, Nat.reduceBNe, reduceIte, reduceDIte, reduceCtorEq]
      try rfl
    · exact ⟨by omega, by simp⟩
    · rintro k ⟨g1, g2⟩
      try dsimp only at g1 g2
      refine r_seq ?_
      refine r_seq ?_
      refine q_region hG ?_ ?_ -- R4
      · first | trivial | omega | (simp; done) | (simp; omega)
      refine k_seq ?_
      refine q_cond ?_ ?_
      · intro hb1
        try simp only [decide_eq_true_eq, decide_eq_false_iff_not, beq_iff_eq, bne_iff_ne, Bool.not_eq_true', Bool.and_eq_true] at hb1
        try simp only [nth_gi, nth_row] at hb1
        refine r_skip ?_
        refine k_seq ?_
        refine r_seq ?_
        refine j_block ?_
        refine r_seq ?_
        refine q_region hG ?_ ?_ -- R6
        · first | trivial | omega | (simp; done) | (simp; omega)
        refine k_seq ?_
        refine j_block ?_
        refine j_loop (fun (z : Nat) => (⟨[(0, .l (.z (.slice (.slice (.int .i64))) g)), (2, .l (.z .bool false)), (3, .l (.z (.int .i64) (k : Int))), (4, .l (.z (.int .i64) (z : Int)))], []⟩ : AState)) (fun z => z ≤ (row' g k).length ∧ okRow g.length (-1) ((row' g k).take z) = true) (fun z => (row' g k).length - z) 0 ?_ ?_ ?_
        · simp only [ml0, ml1, Nat.reduceLT, Nat.reduceEqDiff, Nat.reduceAdd, Nat.reduceMul, Nat.reduceSub, Nat.reduceLeDiff, Nat.reduceBEq, Nat.reduceBNe, reduceIte, reduceDIte, reduceCtorEq]
          try rfl
        · exact ⟨by omega, by simp [okRow]⟩
        · rintro j ⟨g3, g4⟩
          try dsimp only at g3 g4
          have hr := hC.2 _ (row_mem' (g := g) (k := k) (by omega))
          refine r_seq ?_
          refine r_seq ?_
          refine q_region hG ?_ ?_ -- R7
          · try simp only [and_true, true_and]
            omega
          refine k_seq ?_
          refine q_cond ?_ ?_
          · intro hb2
            try simp only [decide_eq_true_eq, decide_eq_false_iff_not, beq_iff_eq, bne_iff_ne, Bool.not_eq_true', Bool.and_eq_true] at hb2
            try simp only [nth_gi, nth_row] at hb2
            refine r_skip ?_
            refine k_seq ?_
            refine r_seq ?_
            refine j_block ?_
            refine r_seq ?_
            refine q_region hG ?_ ?_ -- R9
            · try simp only [and_true, true_and]
              exact ⟨by omega, by rw [nth_row]; omega⟩
            refine k_seq ?_
            refine r_seq ?_
            refine q_region hG ?_ ?_ -- R10
            · try simp only [and_true, true_and]
              simp only [nth_row, nth_gi]
              have e := fun h => idx_back (j := j) (n := (row' g k).length) h (by omega) hr
              have e1 : (0 : Int) ≤ (k : Int) ∧ (k : Int) < (g.length : Int) := by omega
              refine ⟨fun h => h, fun h => h, fun h => by rw [h]; rfl, fun h => h, fun h => h, fun h => ⟨h, e1⟩, fun h => h, fun h => h, fun h => ⟨h, e (of_decide_eq_true (Bool.and_eq_true_iff.1 h).2)⟩, fun h => h, fun h => h, fun h => ⟨h, fun h2 => by rw [h, h2]; rfl⟩, fun h => by rw [h]; rfl⟩
            refine k_seq ?_
            refine q_cond ?_ ?_
            · intro hb3
              try simp only [decide_eq_true_eq, decide_eq_false_iff_not, beq_iff_eq, bne_iff_ne, Bool.not_eq_true', Bool.and_eq_true] at hb3
              try simp only [nth_gi, nth_row] at hb3
              refine r_seq ?_
              refine q_region hG ?_ ?_ -- R11
              · first | trivial | omega | (simp; done) | (simp; omega)
              refine k_seq ?_
              refine r_ret ?_
              refine k_block_ret ?_
              refine k_seq_ret ?_
              refine k_round_ret ?_
              refine k_block_ret ?_
              refine k_block_ret ?_
              refine k_seq_ret ?_
              refine k_round_ret ?_
              refine k_block_ret ?_
              refine k_seq_ret ?_
              refine ⟨[], ?_⟩
              simp only [hT, tab25, mr0, mr1, mr2, isNilP, Nat.reduceLT, Nat.reduceEqDiff, Nat.reduceAdd, Nat.reduceMul, Nat.reduceSub, Nat.reduceLeDiff, Nat.reduceBEq, Nat.reduceBNe, reduceIte, reduceDIte, reduceCtorEq]
              have hb3 := (row_test (n := g.length) (l := row' g k) (x := gi (row' g k) j) (by omega) hr g4).symm.trans hb3
              exact (bad_at (g := g) (k := k) (j := j) (by omega) (by omega) (of_decide_eq_true hb3)).symm
            · intro hb3
              try simp only [decide_eq_true_eq, decide_eq_false_iff_not, beq_eq_false_iff_ne, bne_eq_false_iff_eq, Bool.not_eq_false', Bool.and_eq_false_imp] at hb3
              try simp only [nth_gi, nth_row] at hb3
              refine r_skip ?_
              refine k_block ?_
              refine k_seq ?_
              refine q_region hG ?_ ?_ -- R8
              · first | trivial | omega | (simp; done) | (simp; omega)
              show ∃ z, _
              simp only [ml0, ml1, Nat.reduceLT, Nat.reduceEqDiff, Nat.reduceAdd, Nat.reduceMul, Nat.reduceSub, Nat.reduceLeDiff, Nat.reduceBEq, Nat.reduceBNe, reduceIte, reduceDIte, reduceCtorEq]
              have hb3 := (row_test (n := g.length) (l := row' g k) (x := gi (row' g k) j) (by omega) hr g4).symm.trans hb3
              rw [decide_eq_false_iff_not, not_or] at hb3
              exact ⟨j + 1, by rw [wi (by omega) (by omega)]; simp, by omega, row_snoc (by omega) g4 (by omega) (by omega), by omega⟩
          · intro hb2
            try simp only [decide_eq_true_eq, decide_eq_false_iff_not, beq_eq_false_iff_ne, bne_eq_false_iff_eq, Bool.not_eq_false', Bool.and_eq_false_imp] at hb2
            try simp only [nth_gi, nth_row] at hb2
            refine r_exit ?_
            refine k_seq_exit ?_
            refine k_round_exit ?_
            refine k_block_exit ?_
            refine k_block ?_
            refine k_seq ?_
            refine q_region hG ?_ ?_ -- R5
            · first | trivial | omega | (simp; done) | (simp; omega)
            show ∃ z, _
            simp only [ml0, ml1, Nat.reduceLT, Nat.reduceEqDiff, Nat.reduceAdd, Nat.reduceMul, Nat.reduceSub, Nat.reduceLeDiff, Nat.reduceBEq, Nat.reduceBNe, reduceIte, reduceDIte, reduceCtorEq]
            exact ⟨k + 1, by rw [wi (by omega) (by omega)]; simp, by omega, by rw [rows_snoc (by omega), g2]; rw [List.take_of_length_le (by omega)] at g4; simpa using g4, by omega⟩
      · intro hb1
        try simp only [decide_eq_true_eq, decide_eq_false_iff_not, beq_eq_false_iff_ne, bne_eq_false_iff_eq, Bool.not_eq_false', Bool.and_eq_false_imp] at hb1
        try simp only [nth_gi, nth_row] at hb1
        refine r_exit ?_
        refine k_seq_exit ?_
        refine k_round_exit ?_
        refine k_block_exit ?_
        refine k_seq ?_
        refine r_seq ?_
        refine q_region hG ?_ ?_ -- R12
        · first | trivial | omega | (simp; done) | (simp; omega)
        refine k_seq ?_
        refine r_ret ?_
        refine ⟨[], ?_⟩
        simp only [hT, tab25, mr0, mr1, mr2, isNilP, Nat.reduceLT, Nat.reduceEqDiff, Nat.reduceAdd, Nat.reduceMul, Nat.reduceSub, Nat.reduceLeDiff, Nat.reduceBEq, Nat.reduceBNe, reduceIte, reduceDIte, reduceCtorEq]
        exact (ok_all (by omega) (by omega) (by rw [List.take_of_length_le (by omega)] at g2; exact g2)).symm

end Go.Proofs.YtcopdikdkkdlfaaDoor
end

section
/- The functions of the package graph, one after the other: each meets its contract. -/
set_option linter.unusedSimpArgs false
set_option linter.unusedVariables false
set_option maxRecDepth 100000
namespace Go.Proofs.YtcopdikdkkdlfaaDoor
open Go Go.Cm Go.Cm.Gr Go.Proofs

def tab47 (B : Base) : Tab := { types := [(3, (.int .i64)), (30, (.int .u64)), (84, (.int .u64))], elems := [], cons := [], hint := [], N := 11, base := B }
theorem good47 {B : Base} (hB : Tabs B) : MGood Tryd.prog (tab47 B) := ⟨⟨types_cons ty3 (types_cons ty30 (types_cons ty84 (types_nil))), elems_nil, by simp only [tab47, ioB]; omega⟩, cons_nil rfl, by kernel_rfl⟩
def cIn : Con := fun l os => match l, os with
  | [.z (.int .u64) s, .z (.int .i64) v], [] => some (U64 s ∧ 0 ≤ v ∧ v ≤ 64, [.z .bool (s.toNat.testBit v.toNat)], [])
  | _, _ => none

theorem valid47 {B : Base} (hB : Tabs B) : Valid B Tryd.prog 47 cIn := by
  refine valid_of_J (T := tab47 B) (good47 hB).tab Tryd.func47 rfl rfl rfl ?_
  intro args os C rs os' hc hC
  unfold cIn at hc
  split at hc
  case h_2 => cases hc
  rename_i s v
  cases hc
  refine ⟨by simp only [List.length_cons, List.length_nil, tab47]; omega, rfl, ?_⟩
  intro X hP hT hr
  have hG : MGood X.P X.T := by rw [hP, hT]; exact good47 hB
  unfold tab47 at hT
  have hX := Bool.not_true
  simp only [Tryd.f47, argEnv, ioList, ioB]
  refine r_seq ?_
  refine q_region hG ?_ ?_ -- R0
  · first | trivial | omega | (simp; done) | (simp; omega)
  refine k_seq ?_
  refine r_seq ?_
  refine q_region hG ?_ ?_ -- R1
  · try simp only [and_true, true_and]
    rw [conv64 hC.2.1 (Int.le_trans hC.2.2 (by decide))]
    exact hC.2.1
  refine k_seq ?_
  refine r_ret ?_
  refine ⟨[], ?_⟩
  simp only [hT, tab47, mr0, mr1, mr2, isNilP, Nat.reduceLT, Nat.reduceEqDiff, Nat.reduceAdd, Nat.reduceMul, Nat.reduceSub, Nat.reduceLeDiff, Nat.reduceBEq, Nat.reduceBNe, reduceIte, reduceDIte, reduceCtorEq]
  exact in_bit hC.1 hC.2.1 hC.2.2

def tab26 (B : Base) : Tab := { types := [(3, (.int .i64)), (27, (.slice (.slice (.int .i64)))), (30, (.int .u64)), (84, (.int .u64))], elems := [], cons := [], hint := [], N := 11, base := B }
theorem good26 {B : Base} (hB : Tabs B) : MGood Tryd.prog (tab26 B) := ⟨⟨types_cons ty3 (types_cons ty27 (types_cons ty30 (types_cons ty84 (types_nil)))), elems_nil, by simp only [tab26, ioB]; omega⟩, cons_nil rfl, by kernel_rfl⟩
def cNodes : Con := fun l os => match l, os with
  | [.z (.slice (.slice (.int .i64))) g, .z (.int .u64) s], [] => some (U64 s ∧ g.length ≤ 32, [.z .bool (decide (s.toNat < 2 ^ g.length))], [])
  | _, _ => none

theorem valid26 {B : Base} (hB : Tabs B) : Valid B Tryd.prog 26 cNodes := by
  refine valid_of_J (T := tab26 B) (good26 hB).tab Tryd.func26 rfl rfl rfl ?_
  intro args os C rs os' hc hC
  unfold cNodes at hc
  split at hc
  case h_2 => cases hc
  rename_i g s
  cases hc
  refine ⟨by simp only [List.length_cons, List.length_nil, tab26]; omega, rfl, ?_⟩
  intro X hP hT hr
  have hG : MGood X.P X.T := by rw [hP, hT]; exact good26 hB
  unfold tab26 at hT
  have hX := Bool.not_true
  simp only [Tryd.f26, argEnv, ioList, ioB]
  refine r_seq ?_
  refine q_region hG ?_ ?_ -- R0
  · first | trivial | omega | (simp; done) | (simp; omega)
  refine k_seq ?_
  refine r_seq ?_
  refine q_region hG ?_ ?_ -- R1
  · try simp only [and_true, true_and]
    have h := hC.2
    rw [conv64 (Int.natCast_nonneg _) (by omega)]
    exact Int.natCast_nonneg _
  refine k_seq ?_
  refine r_ret ?_
  refine ⟨[], ?_⟩
  simp only [hT, tab26, mr0, mr1, mr2, isNilP, Nat.reduceLT, Nat.reduceEqDiff, Nat.reduceAdd, Nat.reduceMul, Nat.reduceSub, Nat.reduceLeDiff, Nat.reduceBEq, Nat.reduceBNe, reduceIte, reduceDIte, reduceCtorEq]
  exact in_nodes hC.1 hC.2

def tab12 (B : Base) : Tab := { types := [(25, (.int .u16)), (27, (.slice (.slice (.int .i64)))), (30, (.int .u64))], elems := [], cons := [], hint := [], N := 12, base := B }
theorem good12 {B : Base} (hB : Tabs B) : MGood Tryd.prog (tab12 B) := ⟨⟨types_cons ty25 (types_cons ty27 (types_cons ty30 (types_nil))), elems_nil, by simp only [tab12, ioB]; omega⟩, cons_nil rfl, by kernel_rfl⟩
def cSome : Con := fun l os => match l, os with
  | [.z (.slice (.slice (.int .i64))) g, .z (.int .u16) x], [] => some (0 ≤ x ∧ x < 65536 ∧ g.length ≤ 32, [.z (.int .u64) (someV g x : Int)], [])
  | _, _ => none

theorem valid12 {B : Base} (hB : Tabs B) : Valid B Tryd.prog 12 cSome := by
  refine valid_of_J (T := tab12 B) (good12 hB).tab Tryd.func12 rfl rfl rfl ?_
  intro args os C rs os' hc hC
  unfold cSome at hc
  split at hc
  case h_2 => cases hc
  rename_i g x
  cases hc
  refine ⟨by simp only [List.length_cons, List.length_nil, tab12]; omega, rfl, ?_⟩
  intro X hP hT hr
  have hG : MGood X.P X.T := by rw [hP, hT]; exact good12 hB
  unfold tab12 at hT
  have hX := Bool.not_true
  simp only [Tryd.f12, argEnv, ioList, ioB]
  refine r_seq ?_
  refine q_region hG ?_ ?_ -- R0
  · first | trivial | omega | (simp; done) | (simp; omega)
  refine k_seq ?_
  refine r_seq ?_
  refine q_region hG ?_ ?_ -- R1
  · try simp only [and_true, true_and]
    exact Int.natCast_nonneg _
  refine k_seq ?_
  refine r_ret ?_
  refine ⟨[], ?_⟩
  simp only [hT, tab12, mr0, mr1, mr2, isNilP, Nat.reduceLT, Nat.reduceEqDiff, Nat.reduceAdd, Nat.reduceMul, Nat.reduceSub, Nat.reduceLeDiff, Nat.reduceBEq, Nat.reduceBNe, reduceIte, reduceDIte, reduceCtorEq]
  exact some_eq hC.1 hC.2.1 hC.2.2

end Go.Proofs.YtcopdikdkkdlfaaDoor
end

section
/- The functions of the package graph, one after the other: each meets its contract. -/
set_option linter.unusedSimpArgs false
set_option linter.unusedVariables false
set_option maxRecDepth 100000
namespace Go.Proofs.YtcopdikdkkdlfaaDoor
open Go Go.Cm Go.Cm.Gr Go.Proofs

def tab27 (B : Base) : Tab := { types := [(3, (.int .i64)), (27, (.slice (.slice (.int .i64)))), (30, (.int .u64)), (36, (.slice (.int .i64))), (84, (.int .u64))], elems := [], cons := [(47, cIn)], hint := [], N := 44, base := B }
theorem good27 {B : Base} (hB : Tabs B) : MGood Tryd.prog (tab27 B) := ⟨⟨types_cons ty3 (types_cons ty27 (types_cons ty30 (types_cons ty36 (types_cons ty84 (types_nil))))), elems_nil, by simp only [tab27, ioB]; omega⟩, cons_ok (cals_cons (cal_ok Tryd.func47 (by kernel_rfl) rfl (valid47 hB)) (cals_nil)), by kernel_rfl⟩
def cRefReach : Con := fun l os => match l, os with
  | [.z (.slice (.slice (.int .i64))) g, .z (.int .u64) s], [] => some (Val g ∧ U64 s ∧ s.toNat < 2 ^ g.length, [.z (.int .u64) (reach g s.toNat : Int)], [])
  | _, _ => none

theorem valid27 {B : Base} (hB : Tabs B) : Valid B Tryd.prog 27 cRefReach := by
  refine valid_of_J (T := tab27 B) (good27 hB).tab Tryd.func27 rfl rfl rfl ?_
  intro args os C rs os' hc hC
  unfold cRefReach at hc
  split at hc
  case h_2 => cases hc
  rename_i g s
  cases hc
  refine ⟨by simp only [List.length_cons, List.length_nil, tab27]; omega, rfl, ?_⟩
  intro X hP hT hr
  have hG : MGood X.P X.T := by rw [hP, hT]; exact good27 hB
  unfold tab27 at hT
  have hX := @cIn.eq_1
  simp only [Tryd.f27, argEnv, ioList, ioB]
  refine r_seq ?_
  obtain ⟨hv, hu, hs⟩ := hC
  have h64 := hu.lt
  have n1 := hv.one
  have n2 := hv.most
  refine q_region hG ?_ ?_ -- R0
  · first | trivial | omega | (simp; done) | (simp; omega)
  refine k_seq ?_
  refine r_seq ?_
  refine r_seq ?_
  refine q_region hG ?_ ?_ -- R1
  · first | trivial | omega | (simp; done) | (simp; omega)
  refine k_seq ?_
  refine j_block ?_
  refine j_loop (fun (z : Nat) => (⟨[(0, .l (.z (.slice (.slice (.int .i64))) g)), (1, .l (.z (.int .u64) (passK g s.toNat z : Int))), (4, .l (.z (.int .u64) 0)), (5, .l (.z (.int .i64) (z : Int)))], []⟩ : AState)) (fun z => z ≤ g.length) (fun z => g.length - z) 0 ?_ ?_ ?_
  · simp only [ml0, ml1, Nat.reduceLT, Nat.reduceEqDiff, Nat.reduceAdd, Nat.reduceMul, Nat.reduceSub, Nat.reduceLeDiff, Nat.reduceBEq, Nat.reduceBNe, reduceIte, reduceDIte, reduceCtorEq]
    exact ⟨(Int.toNat_of_nonneg hu.1).symm, rfl⟩
  · omega
  · rintro i g1
    try dsimp only at g1
    have k1 := passK_lt hv hs i
    refine r_seq ?_
    refine r_seq ?_
    refine q_region hG ?_ ?_ -- R2
    · first | trivial | omega | (simp; done) | (simp; omega)
    refine k_seq ?_
    refine q_cond ?_ ?_
    · intro hb0
      try simp only [decide_eq_true_eq, decide_eq_false_iff_not, beq_iff_eq, bne_iff_ne, Bool.not_eq_true', Bool.and_eq_true] at hb0
      try simp only [nth_gi, nth_row] at hb0
      refine r_skip ?_
      refine k_seq ?_
      refine r_seq ?_
      refine j_block ?_
      refine r_seq ?_
      refine q_region hG ?_ ?_ -- R4
      · first | trivial | omega | (simp; done) | (simp; omega)
      refine k_seq ?_
      refine j_block ?_
      refine j_loop (fun (z : Nat) => (⟨[(0, .l (.z (.slice (.slice (.int .i64))) g)), (1, .l (.z (.int .u64) ((passV g (passK g s.toNat i) z) : Int))), (4, .l (.z (.int .u64) 0)), (5, .l (.z (.int .i64) (i : Int))), (6, .l (.z (.int .i64) (z : Int)))], []⟩ : AState)) (fun z => z ≤ g.length) (fun z => g.length - z) 0 ?_ ?_ ?_
      · simp only [ml0, ml1, Nat.reduceLT, Nat.reduceEqDiff, Nat.reduceAdd, Nat.reduceMul, Nat.reduceSub, Nat.reduceLeDiff, Nat.reduceBEq, Nat.reduceBNe, reduceIte, reduceDIte, reduceCtorEq]
        exact ⟨rfl, rfl⟩
      · omega
      · rintro v g2
        try dsimp only at g2
        have k2 := passV_lt hv v k1
        refine r_seq ?_
        refine r_seq ?_
        refine q_region hG ?_ ?_ -- R5
        · first | trivial | omega | (simp; done) | (simp; omega)
        refine k_seq ?_
        refine q_cond ?_ ?_
        · intro hb1
          try simp only [decide_eq_true_eq, decide_eq_false_iff_not, beq_iff_eq, bne_iff_ne, Bool.not_eq_true', Bool.and_eq_true] at hb1
          try simp only [nth_gi, nth_row] at hb1
          refine r_skip ?_
          refine k_seq ?_
          refine r_seq ?_
          refine j_block ?_
          refine r_seq ?_
          refine q_region hG ?_ ?_ -- R7
          · first | trivial | omega | (simp; done) | (simp; omega)
          refine k_seq ?_
          refine j_block ?_
          refine j_loop (fun (z : Nat) => (⟨[(0, .l (.z (.slice (.slice (.int .i64))) g)), (1, .l (.z (.int .u64) ((rowJ g v (passV g (passK g s.toNat i) v) z) : Int))), (4, .l (.z (.int .u64) 0)), (5, .l (.z (.int .i64) (i : Int))), (6, .l (.z (.int .i64) (v : Int))), (7, .l (.z (.int .i64) (z : Int)))], []⟩ : AState)) (fun z => z ≤ (row g v).length) (fun z => (row g v).length - z) 0 ?_ ?_ ?_
          · simp only [ml0, ml1, Nat.reduceLT, Nat.reduceEqDiff, Nat.reduceAdd, Nat.reduceMul, Nat.reduceSub, Nat.reduceLeDiff, Nat.reduceBEq, Nat.reduceBNe, reduceIte, reduceDIte, reduceCtorEq]
            exact ⟨rfl, rfl⟩
          · omega
          · rintro j g3
            try dsimp only at g3
            have k3 := rowJ_lt hv (v := v) j k2
            have e7 := row_len hv v
            refine r_seq ?_
            refine r_seq ?_
            refine q_region hG ?_ ?_ -- R8
            · try simp only [and_true, true_and]
              omega
            refine k_seq ?_
            refine q_cond ?_ ?_
            · intro hb2
              try simp only [decide_eq_true_eq, decide_eq_false_iff_not, beq_iff_eq, bne_iff_ne, Bool.not_eq_true', Bool.and_eq_true] at hb2
              try simp only [nth_gi, nth_row] at hb2
              have hj : j < (row g v).length := by have h : (j : Int) < ((row g v).length : Int) := hb2; omega
              obtain ⟨w1, w2⟩ := row_at' hv hj
              refine r_skip ?_
              refine k_seq ?_
              refine r_seq ?_
              refine j_block ?_
              refine r_seq ?_
              refine q_region hG ?_ ?_ -- R10
              · try simp only [and_true, true_and]
                exact ⟨u64_nat (lt32 hv k3), by show (0 : Int) ≤ (v : Int); omega, by show (v : Int) ≤ (64 : Int); omega⟩
              refine k_seq ?_
              refine q_cond ?_ ?_
              · intro hb3
                try simp only [decide_eq_true_eq, decide_eq_false_iff_not, beq_iff_eq, bne_iff_ne, Bool.not_eq_true', Bool.and_eq_true] at hb3
                try simp only [nth_gi, nth_row] at hb3
                simp only [Int.toNat_natCast] at hb3
                refine q_region hG ?_ ?_ -- R11
                · try simp only [and_true, true_and]
                  exact ⟨by omega, ⟨by omega, by show (j : Int) < ((row g v).length : Int); omega⟩, by show 0 ≤ IntKind.u64.wrap (gi (row g v) j); rw [conv64 w1 (by omega)]; exact w1⟩
                refine k_block ?_
                refine k_seq ?_
                refine q_region hG ?_ ?_ -- R9
                · first | trivial | omega | (simp; done) | (simp; omega)
                show ∃ z, _
                simp only [ml0, ml1, Nat.reduceLT, Nat.reduceEqDiff, Nat.reduceAdd, Nat.reduceMul, Nat.reduceSub, Nat.reduceLeDiff, Nat.reduceBEq, Nat.reduceBNe, reduceIte, reduceDIte, reduceCtorEq]
                first | exact ⟨j + 1, rowJ_t hv hj hb3 (lt32 hv k3), by rw [wi (by omega) (by omega)]; simp, by omega, by omega⟩ | exact ⟨j + 1, by rw [rowJ_succ hj, addE_f hb3], by rw [wi (by omega) (by omega)]; simp, by omega, by omega⟩
              · intro hb3
                try simp only [decide_eq_true_eq, decide_eq_false_iff_not, beq_eq_false_iff_ne, bne_eq_false_iff_eq, Bool.not_eq_false', Bool.and_eq_false_imp] at hb3
                try simp only [nth_gi, nth_row] at hb3
                simp only [Int.toNat_natCast] at hb3
                refine r_skip ?_
                refine k_block ?_
                refine k_seq ?_
                refine q_region hG ?_ ?_ -- R9
                · first | trivial | omega | (simp; done) | (simp; omega)
                show ∃ z, _
                simp only [ml0, ml1, Nat.reduceLT, Nat.reduceEqDiff, Nat.reduceAdd, Nat.reduceMul, Nat.reduceSub, Nat.reduceLeDiff, Nat.reduceBEq, Nat.reduceBNe, reduceIte, reduceDIte, reduceCtorEq]
                first | exact ⟨j + 1, rowJ_t hv hj hb3 (lt32 hv k3), by rw [wi (by omega) (by omega)]; simp, by omega, by omega⟩ | exact ⟨j + 1, by rw [rowJ_succ hj, addE_f hb3], by rw [wi (by omega) (by omega)]; simp, by omega, by omega⟩
            · intro hb2
              try simp only [decide_eq_true_eq, decide_eq_false_iff_not, beq_eq_false_iff_ne, bne_eq_false_iff_eq, Bool.not_eq_false', Bool.and_eq_false_imp] at hb2
              try simp only [nth_gi, nth_row] at hb2
              have hj : ¬ j < (row g v).length := fun h => hb2 (by show (j : Int) < ((row g v).length : Int); omega)
              refine r_exit ?_
              refine k_seq_exit ?_
              refine k_round_exit ?_
              refine k_block_exit ?_
              refine k_block ?_
              refine k_seq ?_
              refine q_region hG ?_ ?_ -- R6
              · first | trivial | omega | (simp; done) | (simp; omega)
              show ∃ z, _
              simp only [ml0, ml1, Nat.reduceLT, Nat.reduceEqDiff, Nat.reduceAdd, Nat.reduceMul, Nat.reduceSub, Nat.reduceLeDiff, Nat.reduceBEq, Nat.reduceBNe, reduceIte, reduceDIte, reduceCtorEq]
              exact ⟨v + 1, by rw [passV_succ, rowJ_end hj], by rw [wi (by omega) (by omega)]; simp, by omega, by omega⟩
        · intro hb1
          try simp only [decide_eq_true_eq, decide_eq_false_iff_not, beq_eq_false_iff_ne, bne_eq_false_iff_eq, Bool.not_eq_false', Bool.and_eq_false_imp] at hb1
          try simp only [nth_gi, nth_row] at hb1
          refine r_exit ?_
          refine k_seq_exit ?_
          refine k_round_exit ?_
          refine k_block_exit ?_
          refine k_block ?_
          refine k_seq ?_
          refine q_region hG ?_ ?_ -- R3
          · first | trivial | omega | (simp; done) | (simp; omega)
          show ∃ z, _
          simp only [ml0, ml1, Nat.reduceLT, Nat.reduceEqDiff, Nat.reduceAdd, Nat.reduceMul, Nat.reduceSub, Nat.reduceLeDiff, Nat.reduceBEq, Nat.reduceBNe, reduceIte, reduceDIte, reduceCtorEq]
          have h2 : v = g.length := by omega
          exact ⟨i + 1, by rw [h2]; rfl, by rw [wi (by omega) (by omega)]; simp, by omega, by omega⟩
    · intro hb0
      try simp only [decide_eq_true_eq, decide_eq_false_iff_not, beq_eq_false_iff_ne, bne_eq_false_iff_eq, Bool.not_eq_false', Bool.and_eq_false_imp] at hb0
      try simp only [nth_gi, nth_row] at hb0
      refine r_exit ?_
      refine k_seq_exit ?_
      refine k_round_exit ?_
      refine k_block_exit ?_
      refine k_seq ?_
      refine r_seq ?_
      refine q_region hG ?_ ?_ -- R12
      · first | trivial | omega | (simp; done) | (simp; omega)
      refine k_seq ?_
      refine r_ret ?_
      refine ⟨[], ?_⟩
      simp only [hT, tab27, mr0, mr1, mr2, isNilP, Nat.reduceLT, Nat.reduceEqDiff, Nat.reduceAdd, Nat.reduceMul, Nat.reduceSub, Nat.reduceLeDiff, Nat.reduceBEq, Nat.reduceBNe, reduceIte, reduceDIte, reduceCtorEq]
      have h2 : i = g.length := by omega
      rw [h2, passK_reach hv hs]

end Go.Proofs.YtcopdikdkkdlfaaDoor
end

section
/- The functions of the package graph, one after the other: each meets its contract. -/
set_option linter.unusedSimpArgs false
set_option linter.unusedVariables false
set_option maxRecDepth 100000
namespace Go.Proofs.YtcopdikdkkdlfaaDoor
open Go Go.Cm Go.Cm.Gr Go.Proofs

def tab28 (B : Base) : Tab := { types := [(3, (.int .i64)), (27, (.slice (.slice (.int .i64)))), (30, (.int .u64)), (84, (.int .u64))], elems := [], cons := [(27, cRefReach)], hint := [], N := 27, base := B }
theorem good28 {B : Base} (hB : Tabs B) : MGood Tryd.prog (tab28 B) := ⟨⟨types_cons ty3 (types_cons ty27 (types_cons ty30 (types_cons ty84 (types_nil)))), elems_nil, by simp only [tab28, ioB]; omega⟩, cons_ok (cals_cons (cal_ok Tryd.func27 (by kernel_rfl) rfl (valid27 hB)) (cals_nil)), by kernel_rfl⟩
def cRefBack : Con := fun l os => match l, os with
  | [.z (.slice (.slice (.int .i64))) g, .z (.int .u64) s], [] => some (Val g ∧ U64 s ∧ s.toNat < 2 ^ g.length, [.z (.int .u64) (back g s.toNat : Int)], [])
  | _, _ => none

theorem valid28 {B : Base} (hB : Tabs B) : Valid B Tryd.prog 28 cRefBack := by
  refine valid_of_J (T := tab28 B) (good28 hB).tab Tryd.func28 rfl rfl rfl ?_
  intro args os C rs os' hc hC
  unfold cRefBack at hc
  split at hc
  case h_2 => cases hc
  rename_i g s
  cases hc
  refine ⟨by simp only [List.length_cons, List.length_nil, tab28]; omega, rfl, ?_⟩
  intro X hP hT hr
  have hG : MGood X.P X.T := by rw [hP, hT]; exact good28 hB
  unfold tab28 at hT
  have hX := @cRefReach.eq_1
  simp only [Tryd.f28, argEnv, ioList, ioB]
  refine r_seq ?_
  obtain ⟨hv, hu, hs⟩ := hC
  have h64 := hu.lt
  have n1 := hv.one
  have n2 := hv.most
  refine q_region hG ?_ ?_ -- R0
  · first | trivial | omega | (simp; done) | (simp; omega)
  refine k_seq ?_
  refine r_seq ?_
  refine q_region hG ?_ ?_ -- R1
  · first | trivial | omega | (simp; done) | (simp; omega)
  refine k_seq ?_
  refine r_seq ?_
  refine r_seq ?_
  refine q_region hG ?_ ?_ -- R2
  · first | trivial | omega | (simp; done) | (simp; omega)
  refine k_seq ?_
  refine j_block ?_
  refine j_loop (fun (z : Nat) => (⟨[(0, .l (.z (.slice (.slice (.int .i64))) g)), (1, .l (.z (.int .u64) s)), (4, .l (.z (.int .u64) 0)), (5, .l (.z (.int .u64) (mask z (hits g s.toNat) : Int))), (6, .l (.z (.int .i64) (z : Int)))], []⟩ : AState)) (fun z => z ≤ g.length) (fun z => g.length - z) 0 ?_ ?_ ?_
  · simp only [ml0, ml1, Nat.reduceLT, Nat.reduceEqDiff, Nat.reduceAdd, Nat.reduceMul, Nat.reduceSub, Nat.reduceLeDiff, Nat.reduceBEq, Nat.reduceBNe, reduceIte, reduceDIte, reduceCtorEq]
    exact ⟨rfl, rfl⟩
  · omega
  · rintro v g1
    try dsimp only at g1
    refine r_seq ?_
    refine r_seq ?_
    refine q_region hG ?_ ?_ -- R3
    · first | trivial | omega | (simp; done) | (simp; omega)
    refine k_seq ?_
    refine q_cond ?_ ?_
    · intro hb0
      try simp only [decide_eq_true_eq, decide_eq_false_iff_not, beq_iff_eq, bne_iff_ne, Bool.not_eq_true', Bool.and_eq_true] at hb0
      try simp only [nth_gi, nth_row] at hb0
      refine r_skip ?_
      refine k_seq ?_
      refine r_seq ?_
      refine j_block ?_
      refine r_seq ?_
      refine q_region hG ?_ ?_ -- R5
      · try simp only [and_true, true_and]
        rw [one64 (by omega), Int.toNat_natCast]
        have h1 : 1 <<< v < 2 ^ g.length := one_lt (by omega)
        exact ⟨by rw [conv64 (Int.natCast_nonneg _) (by omega)]; exact Int.natCast_nonneg _, hv, u64_nat (lt32 hv h1), h1⟩
      refine k_seq ?_
      refine q_cond ?_ ?_
      · intro hb1
        try simp only [decide_eq_true_eq, decide_eq_false_iff_not, beq_iff_eq, bne_iff_ne, Bool.not_eq_true', Bool.and_eq_true] at hb1
        try simp only [nth_gi, nth_row] at hb1
        rw [one64 (by omega), Int.toNat_natCast] at hb1
        have h1 := eq_true_of_ne_false (fun h => hb1 ((hits_iff hv hu (v := v) (by omega)).2 h))
        refine q_region hG ?_ ?_ -- R6
        · try simp only [and_true, true_and]
          rw [conv64 (Int.natCast_nonneg _) (by omega)]
          exact Int.natCast_nonneg _
        refine k_block ?_
        refine k_seq ?_
        refine q_region hG ?_ ?_ -- R4
        · first | trivial | omega | (simp; done) | (simp; omega)
        show ∃ z, _
        simp only [ml0, ml1, Nat.reduceLT, Nat.reduceEqDiff, Nat.reduceAdd, Nat.reduceMul, Nat.reduceSub, Nat.reduceLeDiff, Nat.reduceBEq, Nat.reduceBNe, reduceIte, reduceDIte, reduceCtorEq]
        first | exact ⟨v + 1, by rw [mask_put2 (by omega), mask_succ, if_pos h1], by rw [wi (by omega) (by omega)]; simp, by omega, by omega⟩ | exact ⟨v + 1, by rw [mask_succ, h1]; rfl, by rw [wi (by omega) (by omega)]; simp, by omega, by omega⟩
      · intro hb1
        try simp only [decide_eq_true_eq, decide_eq_false_iff_not, beq_eq_false_iff_ne, bne_eq_false_iff_eq, Bool.not_eq_false', Bool.and_eq_false_imp] at hb1
        try simp only [nth_gi, nth_row] at hb1
        rw [one64 (by omega), Int.toNat_natCast] at hb1
        have h1 := (hits_iff hv hu (v := v) (by omega)).1 hb1
        refine r_skip ?_
        refine k_block ?_
        refine k_seq ?_
        refine q_region hG ?_ ?_ -- R4
        · first | trivial | omega | (simp; done) | (simp; omega)
        show ∃ z, _
        simp only [ml0, ml1, Nat.reduceLT, Nat.reduceEqDiff, Nat.reduceAdd, Nat.reduceMul, Nat.reduceSub, Nat.reduceLeDiff, Nat.reduceBEq, Nat.reduceBNe, reduceIte, reduceDIte, reduceCtorEq]
        first | exact ⟨v + 1, by rw [mask_put2 (by omega), mask_succ, if_pos h1], by rw [wi (by omega) (by omega)]; simp, by omega, by omega⟩ | exact ⟨v + 1, by rw [mask_succ, h1]; rfl, by rw [wi (by omega) (by omega)]; simp, by omega, by omega⟩
    · intro hb0
      try simp only [decide_eq_true_eq, decide_eq_false_iff_not, beq_eq_false_iff_ne, bne_eq_false_iff_eq, Bool.not_eq_false', Bool.and_eq_false_imp] at hb0
      try simp only [nth_gi, nth_row] at hb0
      refine r_exit ?_
      refine k_seq_exit ?_
      refine k_round_exit ?_
      refine k_block_exit ?_
      refine k_seq ?_
      refine r_seq ?_
      refine q_region hG ?_ ?_ -- R7
      · first | trivial | omega | (simp; done) | (simp; omega)
      refine k_seq ?_
      refine r_ret ?_
      refine ⟨[], ?_⟩
      simp only [hT, tab28, mr0, mr1, mr2, isNilP, Nat.reduceLT, Nat.reduceEqDiff, Nat.reduceAdd, Nat.reduceMul, Nat.reduceSub, Nat.reduceLeDiff, Nat.reduceBEq, Nat.reduceBNe, reduceIte, reduceDIte, reduceCtorEq]
      have h2 : v = g.length := by omega
      rw [h2, back_mask]

end Go.Proofs.YtcopdikdkkdlfaaDoor
end

section
/- The functions of the package graph, one after the other: each meets its contract. -/
set_option linter.unusedSimpArgs false
set_option linter.unusedVariables false
set_option maxRecDepth 100000
namespace Go.Proofs.YtcopdikdkkdlfaaDoor
open Go Go.Cm Go.Cm.Gr Go.Proofs

def tab48 (B : Base) : Tab := { types := [(3, (.int .i64)), (27, (.slice (.slice (.int .i64)))), (30, (.int .u64)), (84, (.int .u64))], elems := [], cons := [(27, cRefReach), (28, cRefBack)], hint := [], N := 16, base := B }
theorem good48 {B : Base} (hB : Tabs B) : MGood Tryd.prog (tab48 B) := ⟨⟨types_cons ty3 (types_cons ty27 (types_cons ty30 (types_cons ty84 (types_nil)))), elems_nil, by simp only [tab48, ioB]; omega⟩, cons_ok (cals_cons (cal_ok Tryd.func27 (by kernel_rfl) rfl (valid27 hB)) (cals_cons (cal_ok Tryd.func28 (by kernel_rfl) rfl (valid28 hB)) (cals_nil))), by kernel_rfl⟩
def cRefPart : Con := fun l os => match l, os with
  | [.z (.slice (.slice (.int .i64))) g, .z (.int .i64) v], [] => some (Val g ∧ 0 ≤ v ∧ v < g.length, [.z (.int .u64) (scc g v.toNat : Int)], [])
  | _, _ => none

theorem valid48 {B : Base} (hB : Tabs B) : Valid B Tryd.prog 48 cRefPart := by
  refine valid_of_J (T := tab48 B) (good48 hB).tab Tryd.func48 rfl rfl rfl ?_
  intro args os C rs os' hc hC
  unfold cRefPart at hc
  split at hc
  case h_2 => cases hc
  rename_i g v
  cases hc
  refine ⟨by simp only [List.length_cons, List.length_nil, tab48]; omega, rfl, ?_⟩
  intro X hP hT hr
  have hG : MGood X.P X.T := by rw [hP, hT]; exact good48 hB
  unfold tab48 at hT
  have hX := And.intro (@cRefBack.eq_1) <| @cRefReach.eq_1
  simp only [Tryd.f48, argEnv, ioList, ioB]
  refine r_seq ?_
  obtain ⟨hv, h0, h1⟩ := hC
  obtain ⟨u, rfl⟩ := Int.eq_ofNat_of_zero_le h0
  have n2 := hv.most
  have hu : u < g.length := by have h : (u : Int) < (g.length : Int) := h1; omega
  refine q_region hG ?_ ?_ -- R0
  · first | trivial | omega | (simp; done) | (simp; omega)
  refine k_seq ?_
  refine r_seq ?_
  refine q_region hG ?_ ?_ -- R1
  · try simp only [and_true, true_and]
    rw [one64 (by omega), Int.toNat_natCast]
    have h1 : 1 <<< u < 2 ^ g.length := one_lt hu
    have h2 : 0 ≤ IntKind.u64.wrap (u : Int) := by rw [conv64 (Int.natCast_nonneg _) (by omega)]; exact Int.natCast_nonneg _
    exact ⟨h2, ⟨hv, u64_nat (lt32 hv h1), h1⟩, h2, hv, u64_nat (lt32 hv h1), h1⟩
  refine k_seq ?_
  refine r_ret ?_
  refine ⟨[], ?_⟩
  simp only [hT, tab48, mr0, mr1, mr2, isNilP, Nat.reduceLT, Nat.reduceEqDiff, Nat.reduceAdd, Nat.reduceMul, Nat.reduceSub, Nat.reduceLeDiff, Nat.reduceBEq, Nat.reduceBNe, reduceIte, reduceDIte, reduceCtorEq]
  rw [one64 (by omega), Int.toNat_natCast, Int.toNat_natCast]
  exact part_eq hv hu

def tab49 (B : Base) : Tab := { types := [(3, (.int .i64)), (27, (.slice (.slice (.int .i64)))), (36, (.slice (.int .i64)))], elems := [], cons := [], hint := [], N := 26, base := B }
theorem good49 {B : Base} (hB : Tabs B) : MGood Tryd.prog (tab49 B) := ⟨⟨types_cons ty3 (types_cons ty27 (types_cons ty36 (types_nil))), elems_nil, by simp only [tab49, ioB]; omega⟩, cons_nil rfl, by kernel_rfl⟩
def cEdge : Con := fun l os => match l, os with
  | [.z (.slice (.slice (.int .i64))) g, .z (.int .i64) u, .z (.int .i64) w], [] => some (Val g ∧ 0 ≤ u ∧ u < g.length, [.z .bool ((row g u.toNat).contains w)], [])
  | _, _ => none

theorem valid49 {B : Base} (hB : Tabs B) : Valid B Tryd.prog 49 cEdge := by
  refine valid_of_J (T := tab49 B) (good49 hB).tab Tryd.func49 rfl rfl rfl ?_
  intro args os C rs os' hc hC
  unfold cEdge at hc
  split at hc
  case h_2 => cases hc
  rename_i g u w
  cases hc
  refine ⟨by simp only [List.length_cons, List.length_nil, tab49]; omega, rfl, ?_⟩
  intro X hP hT hr
  have hG : MGood X.P X.T := by rw [hP, hT]; exact good49 hB
  unfold tab49 at hT
  have hX := Bool.not_true
  simp only [Tryd.f49, argEnv, ioList, ioB]
  refine r_seq ?_
  obtain ⟨hv, h0, h1⟩ := hC
  have n2 := hv.most
  have e7 := row_len hv u.toNat
  refine q_region hG ?_ ?_ -- R0
  · first | trivial | omega | (simp; done) | (simp; omega)
  refine k_seq ?_
  refine r_seq ?_
  refine r_seq ?_
  refine q_region hG ?_ ?_ -- R1
  · first | trivial | omega | (simp; done) | (simp; omega)
  refine k_seq ?_
  refine j_block ?_
  refine j_loop (fun (z : Nat) => (⟨[(0, .l (.z (.slice (.slice (.int .i64))) g)), (1, .l (.z (.int .i64) u)), (2, .l (.z (.int .i64) w)), (6, .l (.z .bool false)), (7, .l (.z (.int .i64) (z : Int)))], []⟩ : AState)) (fun z => z ≤ (row g u.toNat).length ∧ ∀ i, i < z → gi (row g u.toNat) i ≠ w) (fun z => (row g u.toNat).length - z) 0 ?_ ?_ ?_
  · simp only [ml0, ml1, Nat.reduceLT, Nat.reduceEqDiff, Nat.reduceAdd, Nat.reduceMul, Nat.reduceSub, Nat.reduceLeDiff, Nat.reduceBEq, Nat.reduceBNe, reduceIte, reduceDIte, reduceCtorEq]
    rfl
  · exact ⟨Nat.zero_le _, fun i hi => by omega⟩
  · rintro k ⟨g1, g2⟩
    try dsimp only at g1 g2
    refine r_seq ?_
    refine r_seq ?_
    refine q_region hG ?_ ?_ -- R2
    · try simp only [and_true, true_and]
      exact ⟨h0, h1⟩
    refine k_seq ?_
    refine q_cond ?_ ?_
    · intro hb0
      try simp only [decide_eq_true_eq, decide_eq_false_iff_not, beq_iff_eq, bne_iff_ne, Bool.not_eq_true', Bool.and_eq_true] at hb0
      try simp only [nth_gi, nth_row] at hb0
      have hk : k < (row g u.toNat).length := by have h : (k : Int) < ((row g u.toNat).length : Int) := hb0; omega
      refine r_skip ?_
      refine k_seq ?_
      refine r_seq ?_
      refine j_block ?_
      refine r_seq ?_
      refine q_region hG ?_ ?_ -- R4
      · try simp only [and_true, true_and]
        exact ⟨⟨h0, h1⟩, Int.natCast_nonneg _, hb0⟩
      refine k_seq ?_
      refine q_cond ?_ ?_
      · intro hb1
        try simp only [decide_eq_true_eq, decide_eq_false_iff_not, beq_iff_eq, bne_iff_ne, Bool.not_eq_true', Bool.and_eq_true] at hb1
        try simp only [nth_gi, nth_row] at hb1
        refine r_seq ?_
        refine q_region hG ?_ ?_ -- R5
        · first | trivial | omega | (simp; done) | (simp; omega)
        refine k_seq ?_
        refine r_ret ?_
        refine k_block_ret ?_
        refine k_seq_ret ?_
        refine k_round_ret ?_
        refine k_block_ret ?_
        refine k_seq_ret ?_
        refine ⟨[], ?_⟩
        simp only [hT, tab49, mr0, mr1, mr2, isNilP, Nat.reduceLT, Nat.reduceEqDiff, Nat.reduceAdd, Nat.reduceMul, Nat.reduceSub, Nat.reduceLeDiff, Nat.reduceBEq, Nat.reduceBNe, reduceIte, reduceDIte, reduceCtorEq]
        exact (has_at hk hb1).symm
      · intro hb1
        try simp only [decide_eq_true_eq, decide_eq_false_iff_not, beq_eq_false_iff_ne, bne_eq_false_iff_eq, Bool.not_eq_false', Bool.and_eq_false_imp] at hb1
        try simp only [nth_gi, nth_row] at hb1
        refine r_skip ?_
        refine k_block ?_
        refine k_seq ?_
        refine q_region hG ?_ ?_ -- R3
        · first | trivial | omega | (simp; done) | (simp; omega)
        show ∃ z, _
        simp only [ml0, ml1, Nat.reduceLT, Nat.reduceEqDiff, Nat.reduceAdd, Nat.reduceMul, Nat.reduceSub, Nat.reduceLeDiff, Nat.reduceBEq, Nat.reduceBNe, reduceIte, reduceDIte, reduceCtorEq]
        exact ⟨k + 1, by rw [wi (by omega) (by omega)]; simp, by omega, fun i hi => by rcases Nat.lt_succ_iff_lt_or_eq.1 hi with h | h; exact g2 i h; subst h; exact hb1, by omega⟩
    · intro hb0
      try simp only [decide_eq_true_eq, decide_eq_false_iff_not, beq_eq_false_iff_ne, bne_eq_false_iff_eq, Bool.not_eq_false', Bool.and_eq_false_imp] at hb0
      try simp only [nth_gi, nth_row] at hb0
      have hk : ¬ k < (row g u.toNat).length := fun h => hb0 (by show (k : Int) < ((row g u.toNat).length : Int); omega)
      refine r_exit ?_
      refine k_seq_exit ?_
      refine k_round_exit ?_
      refine k_block_exit ?_
      refine k_seq ?_
      refine r_seq ?_
      refine q_region hG ?_ ?_ -- R6
      · first | trivial | omega | (simp; done) | (simp; omega)
      refine k_seq ?_
      refine r_ret ?_
      refine ⟨[], ?_⟩
      simp only [hT, tab49, mr0, mr1, mr2, isNilP, Nat.reduceLT, Nat.reduceEqDiff, Nat.reduceAdd, Nat.reduceMul, Nat.reduceSub, Nat.reduceLeDiff, Nat.reduceBEq, Nat.reduceBNe, reduceIte, reduceDIte, reduceCtorEq]
      exact (has_no fun i hi => g2 i (by omega)).symm

end Go.Proofs.YtcopdikdkkdlfaaDoor
end

section
/- The functions of the package graph, one after the other: each meets its contract. -/
set_option linter.unusedSimpArgs false
set_option linter.unusedVariables false
set_option maxRecDepth 100000
namespace Go.Proofs.YtcopdikdkkdlfaaDoor
open Go Go.Cm Go.Cm.Gr Go.Proofs

def tab30 (B : Base) : Tab := { types := [(3, (.int .i64)), (27, (.slice (.slice (.int .i64)))), (30, (.int .u64)), (36, (.slice (.int .i64))), (84, (.int .u64))], elems := [(36, 3)], cons := [(47, cIn)], hint := [], N := 72, base := B }
theorem good30 {B : Base} (hB : Tabs B) : MGood Tryd.prog (tab30 B) := ⟨⟨types_cons ty3 (types_cons ty27 (types_cons ty30 (types_cons ty36 (types_cons ty84 (types_nil))))), elems_cons (by kernel_rfl) (elems_nil), by simp only [tab30, ioB]; omega⟩, cons_ok (cals_cons (cal_ok Tryd.func47 (by kernel_rfl) rfl (valid47 hB)) (cals_nil)), by kernel_rfl⟩
def cRefFar : Con := fun l os => match l, os with
  | [.z (.slice (.slice (.int .i64))) g, .z (.int .u64) s], [] => some (Val g ∧ U64 s ∧ s.toNat < 2 ^ g.length, [.z (.slice (.int .i64)) (far g s.toNat)], [])
  | _, _ => none

theorem valid30 {B : Base} (hB : Tabs B) : Valid B Tryd.prog 30 cRefFar := by
  refine valid_of_J (T := tab30 B) (good30 hB).tab Tryd.func30 rfl rfl rfl ?_
  intro args os C rs os' hc hC
  unfold cRefFar at hc
  split at hc
  case h_2 => cases hc
  rename_i g s
  cases hc
  refine ⟨by simp only [List.length_cons, List.length_nil, tab30]; omega, rfl, ?_⟩
  intro X hP hT hr
  have hG : MGood X.P X.T := by rw [hP, hT]; exact good30 hB
  unfold tab30 at hT
  have hX := @cIn.eq_1
  simp only [Tryd.f30, argEnv, ioList, ioB]
  refine r_seq ?_
  obtain ⟨hv, hu, hs⟩ := hC
  have h64 := hu.lt
  have n1 := hv.one
  have n2 := hv.most
  refine q_region hG ?_ ?_ -- R0
  · first | trivial | omega | (simp; done) | (simp; omega)
  refine k_seq ?_
  refine r_seq ?_
  refine q_region hG ?_ ?_ -- R1
  · try simp only [and_true, true_and]
    exact room_g hv
  refine k_seq ?_
  refine r_seq ?_
  refine r_seq ?_
  refine q_region hG ?_ ?_ -- R2
  · first | trivial | omega | (simp; done) | (simp; omega)
  refine k_seq ?_
  refine j_block ?_
  refine j_loop (fun (z : Nat) => (⟨[(0, .l (.z (.slice (.slice (.int .i64))) g)), (1, .l (.z (.int .u64) s)), (4, .l (.val (.slice none 0 0))), (5, .l (.ownS 14)), (6, .l (.z (.int .i64) (z : Int)))], [(14, .arr (.int .i64) 3 (List.replicate z (-1) ++ List.replicate (g.length - z) 0))]⟩ : AState)) (fun z => z ≤ g.length) (fun z => g.length - z) 0 ?_ ?_ ?_
  · simp only [ml0, ml1, Nat.reduceLT, Nat.reduceEqDiff, Nat.reduceAdd, Nat.reduceMul, Nat.reduceSub, Nat.reduceLeDiff, Nat.reduceBEq, Nat.reduceBNe, reduceIte, reduceDIte, reduceCtorEq]
    exact ⟨rfl, by simp⟩
  · omega
  · rintro i g1
    try dsimp only at g1
    refine r_seq ?_
    refine r_seq ?_
    refine q_region hG ?_ ?_ -- R3
    · first | trivial | omega | (simp; done) | (simp; omega)
    refine k_seq ?_
    refine q_cond ?_ ?_
    · intro hb0
      try simp only [decide_eq_true_eq, decide_eq_false_iff_not, beq_iff_eq, bne_iff_ne, Bool.not_eq_true', Bool.and_eq_true] at hb0
      try simp only [nth_gi, nth_row] at hb0
      refine r_skip ?_
      refine k_seq ?_
      refine r_seq ?_
      refine j_block ?_
      refine q_region hG ?_ ?_ -- R5
      · try simp only [and_true, true_and]
        rw [List.length_append, List.length_replicate, List.length_replicate]
        omega
      refine k_block ?_
      refine k_seq ?_
      refine q_region hG ?_ ?_ -- R4
      · first | trivial | omega | (simp; done) | (simp; omega)
      show ∃ z, _
      simp only [ml0, ml1, Nat.reduceLT, Nat.reduceEqDiff, Nat.reduceAdd, Nat.reduceMul, Nat.reduceSub, Nat.reduceLeDiff, Nat.reduceBEq, Nat.reduceBNe, reduceIte, reduceDIte, reduceCtorEq]
      exact ⟨i + 1, by rw [wi (by omega) (by omega)]; simp, by rw [Int.toNat_natCast, set_neg (by omega)], by omega, by omega⟩
    · intro hb0
      try simp only [decide_eq_true_eq, decide_eq_false_iff_not, beq_eq_false_iff_ne, bne_eq_false_iff_eq, Bool.not_eq_false', Bool.and_eq_false_imp] at hb0
      try simp only [nth_gi, nth_row] at hb0
      refine r_exit ?_
      refine k_seq_exit ?_
      refine k_round_exit ?_
      refine k_block_exit ?_
      refine k_seq ?_
      refine r_seq ?_
      refine q_region hG ?_ ?_ -- R6
      · first | trivial | omega | (simp; done) | (simp; omega)
      refine k_seq ?_
      refine r_seq ?_
      refine r_seq ?_
      refine q_region hG ?_ ?_ -- R7
      · first | trivial | omega | (simp; done) | (simp; omega)
      refine k_seq ?_
      refine j_block ?_
      refine j_loop (fun (z : Nat) => (⟨[(0, .l (.z (.slice (.slice (.int .i64))) g)), (1, .l (.z (.int .u64) s)), (4, .l (.val (.slice none 0 0))), (5, .l (.ownS 14)), (7, .l (.z (.int .u64) (atK g s.toNat z : Int))), (8, .l (.z (.int .i64) (z : Int)))], [(14, .arr (.int .i64) 3 (farV g s.toNat z 0))]⟩ : AState)) (fun z => z ≤ g.length + 1) (fun z => g.length + 1 - z) 0 ?_ ?_ ?_
      · simp only [ml0, ml1, Nat.reduceLT, Nat.reduceEqDiff, Nat.reduceAdd, Nat.reduceMul, Nat.reduceSub, Nat.reduceLeDiff, Nat.reduceBEq, Nat.reduceBNe, reduceIte, reduceDIte, reduceCtorEq]
        exact ⟨(Int.toNat_of_nonneg hu.1).symm, rfl, by rw [show i = g.length by omega, Nat.sub_self, farV_first]; simp⟩
      · omega
      · rintro k g1
        try dsimp only at g1
        have k1 := atK_lt hv hs k
        refine r_seq ?_
        refine r_seq ?_
        refine q_region hG ?_ ?_ -- R8
        · first | trivial | omega | (simp; done) | (simp; omega)
        refine k_seq ?_
        refine q_cond ?_ ?_
        · intro hb1
          try simp only [decide_eq_true_eq, decide_eq_false_iff_not, beq_iff_eq, bne_iff_ne, Bool.not_eq_true', Bool.and_eq_true] at hb1
          try simp only [nth_gi, nth_row] at hb1
          refine r_skip ?_
          refine k_seq ?_
          refine r_seq ?_
          refine j_block ?_
          refine r_seq ?_
          refine q_region hG ?_ ?_ -- R10
          · first | trivial | omega | (simp; done) | (simp; omega)
          refine k_seq ?_
          refine r_seq ?_
          refine r_seq ?_
          refine q_region hG ?_ ?_ -- R11
          · first | trivial | omega | (simp; done) | (simp; omega)
          refine k_seq ?_
          refine j_block ?_
          refine j_loop (fun (z : Nat) => (⟨[(0, .l (.z (.slice (.slice (.int .i64))) g)), (1, .l (.z (.int .u64) s)), (4, .l (.val (.slice none 0 0))), (5, .l (.ownS 14)), (7, .l (.z (.int .u64) (atK g s.toNat k : Int))), (8, .l (.z (.int .i64) (k : Int))), (9, .l (.z (.int .u64) (nxtV g (atK g s.toNat k) z : Int))), (10, .l (.z (.int .i64) (z : Int)))], [(14, .arr (.int .i64) 3 (farV g s.toNat k z))]⟩ : AState)) (fun z => z ≤ g.length) (fun z => g.length - z) 0 ?_ ?_ ?_
          · simp only [ml0, ml1, Nat.reduceLT, Nat.reduceEqDiff, Nat.reduceAdd, Nat.reduceMul, Nat.reduceSub, Nat.reduceLeDiff, Nat.reduceBEq, Nat.reduceBNe, reduceIte, reduceDIte, reduceCtorEq]
            exact ⟨rfl, rfl⟩
          · omega
          · rintro v g2
            try dsimp only at g2
            have e7 := row_len hv v
            refine r_seq ?_
            refine r_seq ?_
            refine q_region hG ?_ ?_ -- R12
            · first | trivial | omega | (simp; done) | (simp; omega)
            refine k_seq ?_
            refine q_cond ?_ ?_
            · intro hb2
              try simp only [decide_eq_true_eq, decide_eq_false_iff_not, beq_iff_eq, bne_iff_ne, Bool.not_eq_true', Bool.and_eq_true] at hb2
              try simp only [nth_gi, nth_row] at hb2
              refine r_skip ?_
              refine k_seq ?_
              refine r_seq ?_
              refine j_block ?_
              refine r_seq ?_
              refine r_seq ?_
              refine q_region hG ?_ ?_ -- R14
              · try simp only [and_true, true_and]
                exact ⟨u64_nat (lt32 hv k1), Int.natCast_nonneg _, by show (v : Int) ≤ 64; omega⟩
              refine k_seq ?_
              refine q_cond ?_ ?_
              · intro hb3
                try simp only [decide_eq_true_eq, decide_eq_false_iff_not, beq_iff_eq, bne_iff_ne, Bool.not_eq_true', Bool.and_eq_true] at hb3
                try simp only [nth_gi, nth_row] at hb3
                refine r_exit ?_
                refine k_seq_exit ?_
                refine k_block_exit ?_
                refine k_seq ?_
                refine q_region hG ?_ ?_ -- R13
                · first | trivial | omega | (simp; done) | (simp; omega)
                show ∃ z, _
                simp only [ml0, ml1, Nat.reduceLT, Nat.reduceEqDiff, Nat.reduceAdd, Nat.reduceMul, Nat.reduceSub, Nat.reduceLeDiff, Nat.reduceBEq, Nat.reduceBNe, reduceIte, reduceDIte, reduceCtorEq]
                try simp only [Int.toNat_natCast] at hb3
                first | exact ⟨v + 1, by rw [nxtV_f hb3], by rw [wi (by omega) (by omega)]; simp, by rw [farV_skip hb3], by omega, by omega⟩ | exact ⟨v + 1, by rw [nxtJ_end hb3 hb5], by rw [wi (by omega) (by omega)]; simp, rfl, by omega, by omega⟩
              · intro hb3
                try simp only [decide_eq_true_eq, decide_eq_false_iff_not, beq_eq_false_iff_ne, bne_eq_false_iff_eq, Bool.not_eq_false', Bool.and_eq_false_imp] at hb3
                try simp only [nth_gi, nth_row] at hb3
                refine r_skip ?_
                refine k_seq ?_
                refine r_cut (fun (z : Unit) => (⟨[(0, .l (.z (.slice (.slice (.int .i64))) g)), (1, .l (.z (.int .u64) s)), (4, .l (.val (.slice none 0 0))), (5, .l (.ownS 14)), (7, .l (.z (.int .u64) (atK g s.toNat k : Int))), (8, .l (.z (.int .i64) (k : Int))), (9, .l (.z (.int .u64) (nxtV g (atK g s.toNat k) v : Int))), (10, .l (.z (.int .i64) (v : Int)))], [(14, .arr (.int .i64) 3 (farV g s.toNat k (v + 1)))]⟩ : AState)) (fun z => True) ?_ ?_
                · refine r_seq ?_
                  refine q_region hG ?_ ?_ -- R15
                  · try simp only [and_true, true_and]
                    rw [farV_len]
                    omega
                  refine k_seq ?_
                  refine q_cond ?_ ?_
                  · intro hb4
                    try simp only [decide_eq_true_eq, decide_eq_false_iff_not, beq_iff_eq, bne_iff_ne, Bool.not_eq_true', Bool.and_eq_true] at hb4
                    try simp only [nth_gi, nth_row] at hb4
                    refine q_region hG ?_ ?_ -- R16
                    · try simp only [and_true, true_and]
                      rw [farV_len]
                      omega
                    show ∃ z, _
                    simp only [ml0, ml1, Nat.reduceLT, Nat.reduceEqDiff, Nat.reduceAdd, Nat.reduceMul, Nat.reduceSub, Nat.reduceLeDiff, Nat.reduceBEq, Nat.reduceBNe, reduceIte, reduceDIte, reduceCtorEq]
                    try simp only [Int.toNat_natCast] at hb3 hb4 ⊢
                    first | exact farV_put (by omega) hb3 hb4 | exact (farV_keep (by omega) hb4).symm
                  · intro hb4
                    try simp only [decide_eq_true_eq, decide_eq_false_iff_not, beq_eq_false_iff_ne, bne_eq_false_iff_eq, Bool.not_eq_false', Bool.and_eq_false_imp] at hb4
                    try simp only [nth_gi, nth_row] at hb4
                    refine r_skip ?_
                    show ∃ z, _
                    simp only [ml0, ml1, Nat.reduceLT, Nat.reduceEqDiff, Nat.reduceAdd, Nat.reduceMul, Nat.reduceSub, Nat.reduceLeDiff, Nat.reduceBEq, Nat.reduceBNe, reduceIte, reduceDIte, reduceCtorEq]
                    try simp only [Int.toNat_natCast] at hb3 hb4 ⊢
                    first | exact farV_put (by omega) hb3 hb4 | exact (farV_keep (by omega) hb4).symm
                rintro ⟨⟩ -
                refine r_seq ?_
                refine q_region hG ?_ ?_ -- R17
                · first | trivial | omega | (simp; done) | (simp; omega)
                refine k_seq ?_
                refine j_block ?_
                refine j_loop (fun (z : Nat) => (⟨[(0, .l (.z (.slice (.slice (.int .i64))) g)), (1, .l (.z (.int .u64) s)), (4, .l (.val (.slice none 0 0))), (5, .l (.ownS 14)), (7, .l (.z (.int .u64) (atK g s.toNat k : Int))), (8, .l (.z (.int .i64) (k : Int))), (9, .l (.z (.int .u64) (nxtJ g (atK g s.toNat k) v z : Int))), (10, .l (.z (.int .i64) (v : Int))), (11, .l (.z (.int .i64) (z : Int)))], [(14, .arr (.int .i64) 3 (farV g s.toNat k (v + 1)))]⟩ : AState)) (fun z => z ≤ (row g v).length) (fun z => (row g v).length - z) 0 ?_ ?_ ?_
                · simp only [ml0, ml1, Nat.reduceLT, Nat.reduceEqDiff, Nat.reduceAdd, Nat.reduceMul, Nat.reduceSub, Nat.reduceLeDiff, Nat.reduceBEq, Nat.reduceBNe, reduceIte, reduceDIte, reduceCtorEq]
                  exact ⟨rfl, rfl⟩
                · omega
                · rintro j g3
                  try dsimp only at g3
                  have k3 := nxtJ_lt hv (atK g s.toNat k) v j
                  refine r_seq ?_
                  refine r_seq ?_
                  refine q_region hG ?_ ?_ -- R18
                  · try simp only [and_true, true_and]
                    omega
                  refine k_seq ?_
                  refine q_cond ?_ ?_
                  · intro hb5
                    try simp only [decide_eq_true_eq, decide_eq_false_iff_not, beq_iff_eq, bne_iff_ne, Bool.not_eq_true', Bool.and_eq_true] at hb5
                    try simp only [nth_gi, nth_row] at hb5
                    refine r_skip ?_
                    refine k_seq ?_
                    refine r_seq ?_
                    refine j_block ?_
                    refine q_region hG ?_ ?_ -- R20
                    · try simp only [and_true, true_and]
                      simp only [nth_row, nth_gi]
                      have hj : j < (row g v).length := by have h : (j : Int) < ((row g v).length : Int) := hb5; omega
                      obtain ⟨w1, w2⟩ := row_at' hv hj
                      exact ⟨by omega, by omega, by show 0 ≤ IntKind.u64.wrap (gi (row g v) j); rw [conv64 w1 (by omega)]; exact w1⟩
                    refine k_block ?_
                    refine k_seq ?_
                    refine q_region hG ?_ ?_ -- R19
                    · first | trivial | omega | (simp; done) | (simp; omega)
                    show ∃ z, _
                    simp only [ml0, ml1, Nat.reduceLT, Nat.reduceEqDiff, Nat.reduceAdd, Nat.reduceMul, Nat.reduceSub, Nat.reduceLeDiff, Nat.reduceBEq, Nat.reduceBNe, reduceIte, reduceDIte, reduceCtorEq]
                    have hj : j < (row g v).length := by have h : (j : Int) < ((row g v).length : Int) := hb5; omega
                    obtain ⟨w1, w2⟩ := row_at' hv hj
                    simp only [nth_row, nth_gi]
                    exact ⟨j + 1, by rw [nxtJ_succ hj]; exact put64 (w := gi (row g v) j) (lt32 hv k3) w1 (by omega), by rw [wi (by omega) (by omega)]; simp, by omega, by omega⟩
                  · intro hb5
                    try simp only [decide_eq_true_eq, decide_eq_false_iff_not, beq_eq_false_iff_ne, bne_eq_false_iff_eq, Bool.not_eq_false', Bool.and_eq_false_imp] at hb5
                    try simp only [nth_gi, nth_row] at hb5
                    have hb5 : ¬ j < (row g v).length := fun h => hb5 (by show (j : Int) < ((row g v).length : Int); omega)
                    refine r_exit ?_
                    refine k_seq_exit ?_
                    refine k_round_exit ?_
                    refine k_block_exit ?_
                    refine k_block ?_
                    refine k_seq ?_
                    refine q_region hG ?_ ?_ -- R13
                    · first | trivial | omega | (simp; done) | (simp; omega)
                    show ∃ z, _
                    simp only [ml0, ml1, Nat.reduceLT, Nat.reduceEqDiff, Nat.reduceAdd, Nat.reduceMul, Nat.reduceSub, Nat.reduceLeDiff, Nat.reduceBEq, Nat.reduceBNe, reduceIte, reduceDIte, reduceCtorEq]
                    try simp only [Int.toNat_natCast] at hb3
                    first | exact ⟨v + 1, by rw [nxtV_f hb3], by rw [wi (by omega) (by omega)]; simp, by rw [farV_skip hb3], by omega, by omega⟩ | exact ⟨v + 1, by rw [nxtJ_end hb3 hb5], by rw [wi (by omega) (by omega)]; simp, rfl, by omega, by omega⟩
            · intro hb2
              try simp only [decide_eq_true_eq, decide_eq_false_iff_not, beq_eq_false_iff_ne, bne_eq_false_iff_eq, Bool.not_eq_false', Bool.and_eq_false_imp] at hb2
              try simp only [nth_gi, nth_row] at hb2
              refine r_exit ?_
              refine k_seq_exit ?_
              refine k_round_exit ?_
              refine k_block_exit ?_
              refine k_seq ?_
              refine q_region hG ?_ ?_ -- R21
              · first | trivial | omega | (simp; done) | (simp; omega)
              refine k_block ?_
              refine k_seq ?_
              refine q_region hG ?_ ?_ -- R9
              · first | trivial | omega | (simp; done) | (simp; omega)
              show ∃ z, _
              simp only [ml0, ml1, Nat.reduceLT, Nat.reduceEqDiff, Nat.reduceAdd, Nat.reduceMul, Nat.reduceSub, Nat.reduceLeDiff, Nat.reduceBEq, Nat.reduceBNe, reduceIte, reduceDIte, reduceCtorEq]
              exact ⟨k + 1, by rw [nxtV_end (by omega)]; rfl, by rw [wi (by omega) (by omega)]; simp, by rw [farV_next (by omega)], by omega, by omega⟩
        · intro hb1
          try simp only [decide_eq_true_eq, decide_eq_false_iff_not, beq_eq_false_iff_ne, bne_eq_false_iff_eq, Bool.not_eq_false', Bool.and_eq_false_imp] at hb1
          try simp only [nth_gi, nth_row] at hb1
          refine r_exit ?_
          refine k_seq_exit ?_
          refine k_round_exit ?_
          refine k_block_exit ?_
          refine k_seq ?_
          refine r_seq ?_
          refine q_region hG ?_ ?_ -- R22
          · first | trivial | omega | (simp; done) | (simp; omega)
          refine k_seq ?_
          refine r_ret ?_
          refine ⟨[], ?_⟩
          simp only [hT, tab30, mr0, mr1, mr2, isNilP, Nat.reduceLT, Nat.reduceEqDiff, Nat.reduceAdd, Nat.reduceMul, Nat.reduceSub, Nat.reduceLeDiff, Nat.reduceBEq, Nat.reduceBNe, reduceIte, reduceDIte, reduceCtorEq]
          rw [farV_last (by omega)]

end Go.Proofs.YtcopdikdkkdlfaaDoor
end

section
/- The functions of the package graph, one after the other: each meets its contract. -/
set_option linter.unusedSimpArgs false
set_option linter.unusedVariables false
set_option maxRecDepth 100000
namespace Go.Proofs.YtcopdikdkkdlfaaDoor
open Go Go.Cm Go.Cm.Gr Go.Proofs

def tab31 (B : Base) : Tab := { types := [(3, (.int .i64)), (27, (.slice (.slice (.int .i64)))), (30, (.int .u64)), (37, (.slice (.int .u64)))], elems := [(37, 30)], cons := [(47, cIn), (48, cRefPart)], hint := [], N := 28, base := B }
theorem good31 {B : Base} (hB : Tabs B) : MGood Tryd.prog (tab31 B) := ⟨⟨types_cons ty3 (types_cons ty27 (types_cons ty30 (types_cons ty37 (types_nil)))), elems_cons (by kernel_rfl) (elems_nil), by simp only [tab31, ioB]; omega⟩, cons_ok (cals_cons (cal_ok Tryd.func47 (by kernel_rfl) rfl (valid47 hB)) (cals_cons (cal_ok Tryd.func48 (by kernel_rfl) rfl (valid48 hB)) (cals_nil))), by kernel_rfl⟩
def cRefParts : Con := fun l os => match l, os with
  | [.z (.slice (.slice (.int .i64))) g], [] => some (Val g, [.z (.slice (.int .u64)) (partsG g)], [])
  | _, _ => none

theorem valid31 {B : Base} (hB : Tabs B) : Valid B Tryd.prog 31 cRefParts := by
  refine valid_of_J (T := tab31 B) (good31 hB).tab Tryd.func31 rfl rfl rfl ?_
  intro args os C rs os' hc hC
  unfold cRefParts at hc
  split at hc
  case h_2 => cases hc
  rename_i g
  cases hc
  refine ⟨by simp only [List.length_cons, List.length_nil, tab31]; omega, rfl, ?_⟩
  intro X hP hT hr
  have hG : MGood X.P X.T := by rw [hP, hT]; exact good31 hB
  unfold tab31 at hT
  have hX := And.intro (@cIn.eq_1) <| @cRefPart.eq_1
  simp only [Tryd.f31, argEnv, ioList, ioB]
  refine r_seq ?_
  have n1 := hC.one
  have n2 := hC.most
  refine q_region hG ?_ ?_ -- R0
  · first | trivial | omega | (simp; done) | (simp; omega)
  refine k_seq ?_
  refine r_seq ?_
  refine q_region hG ?_ ?_ -- R1
  · first | trivial | omega | (simp; done) | (simp; omega)
  refine k_seq ?_
  refine r_seq ?_
  refine q_region hG ?_ ?_ -- R2
  · first | trivial | omega | (simp; done) | (simp; omega)
  refine k_seq ?_
  refine r_seq ?_
  refine r_seq ?_
  refine q_region hG ?_ ?_ -- R3
  · first | trivial | omega | (simp; done) | (simp; omega)
  refine k_seq ?_
  refine j_block ?_
  refine j_loop (fun (z : Nat) => (⟨[(0, .l (.z (.slice (.slice (.int .i64))) g)), (2, .l (.val (.slice none 0 0))), (3, .l (.ownS 100)), (4, .l (.z (.int .u64) (seenK g z : Int))), (5, .l (.z (.int .i64) (z : Int)))], [(100, .arr (.int .u64) 30 (partsK g z))]⟩ : AState)) (fun z => z ≤ g.length) (fun z => g.length - z) 0 ?_ ?_ ?_
  · simp only [ml0, ml1, Nat.reduceLT, Nat.reduceEqDiff, Nat.reduceAdd, Nat.reduceMul, Nat.reduceSub, Nat.reduceLeDiff, Nat.reduceBEq, Nat.reduceBNe, reduceIte, reduceDIte, reduceCtorEq]
    exact ⟨rfl, rfl, by decide, rfl⟩
  · omega
  · rintro k g1
    try dsimp only at g1
    have k1 := seen_lt hC g1
    have k2 := partsK_len g k
    refine r_seq ?_
    refine r_seq ?_
    refine q_region hG ?_ ?_ -- R4
    · first | trivial | omega | (simp; done) | (simp; omega)
    refine k_seq ?_
    refine q_cond ?_ ?_
    · intro hb0
      try simp only [decide_eq_true_eq, decide_eq_false_iff_not, beq_iff_eq, bne_iff_ne, Bool.not_eq_true', Bool.and_eq_true] at hb0
      try simp only [nth_gi, nth_row] at hb0
      refine r_skip ?_
      refine k_seq ?_
      refine r_seq ?_
      refine j_block ?_
      refine r_seq ?_
      refine q_region hG ?_ ?_ -- R6
      · try simp only [and_true, true_and]
        exact ⟨u64_nat (lt32 hC k1), Int.natCast_nonneg _, by show (k : Int) ≤ 64; omega⟩
      refine k_seq ?_
      refine q_cond ?_ ?_
      · intro hb1
        try simp only [decide_eq_true_eq, decide_eq_false_iff_not, beq_iff_eq, bne_iff_ne, Bool.not_eq_true', Bool.and_eq_true] at hb1
        try simp only [nth_gi, nth_row] at hb1
        refine r_seq ?_
        refine q_region hG ?_ ?_ -- R7
        · try simp only [and_true, true_and]
          exact ⟨hC, Int.natCast_nonneg _, by show (k : Int) < (g.length : Int); omega⟩
        refine k_seq ?_
        refine r_seq ?_
        refine q_region hG ?_ ?_ -- R8
        · try simp only [and_true, true_and]
          exact roomy1 (by omega)
        refine k_seq ?_
        refine q_region hG ?_ ?_ -- R9
        · first | trivial | omega | (simp; done) | (simp; omega)
        refine k_block ?_
        refine k_seq ?_
        refine q_region hG ?_ ?_ -- R5
        · first | trivial | omega | (simp; done) | (simp; omega)
        show ∃ z, _
        simp only [ml0, ml1, Nat.reduceLT, Nat.reduceEqDiff, Nat.reduceAdd, Nat.reduceMul, Nat.reduceSub, Nat.reduceLeDiff, Nat.reduceBEq, Nat.reduceBNe, reduceIte, reduceDIte, reduceCtorEq]
        simp only [Int.toNat_natCast] at hb1 ⊢
        have hk : k < g.length := by omega
        have k3 := scc_64 hC hk
        have k4 := lt32 hC k1
        first | (obtain ⟨p1, p2⟩ := parts_t hC hk hb1; exact ⟨k + 1, by rw [p2]; exact or64 (Nat.lt_trans k4 (by decide)) k3, by rw [wi (by omega) (by omega)]; simp, by rw [p1], by omega, by omega⟩) | (obtain ⟨p1, p2⟩ := parts_f hC hk hb1; exact ⟨k + 1, by rw [p2], by rw [wi (by omega) (by omega)]; simp, by rw [p1], by omega, by omega⟩)
      · intro hb1
        try simp only [decide_eq_true_eq, decide_eq_false_iff_not, beq_eq_false_iff_ne, bne_eq_false_iff_eq, Bool.not_eq_false', Bool.and_eq_false_imp] at hb1
        try simp only [nth_gi, nth_row] at hb1
        refine r_skip ?_
        refine k_block ?_
        refine k_seq ?_
        refine q_region hG ?_ ?_ -- R5
        · first | trivial | omega | (simp; done) | (simp; omega)
        show ∃ z, _
        simp only [ml0, ml1, Nat.reduceLT, Nat.reduceEqDiff, Nat.reduceAdd, Nat.reduceMul, Nat.reduceSub, Nat.reduceLeDiff, Nat.reduceBEq, Nat.reduceBNe, reduceIte, reduceDIte, reduceCtorEq]
        simp only [Int.toNat_natCast] at hb1 ⊢
        have hk : k < g.length := by omega
        have k3 := scc_64 hC hk
        have k4 := lt32 hC k1
        first | (obtain ⟨p1, p2⟩ := parts_t hC hk hb1; exact ⟨k + 1, by rw [p2]; exact or64 (Nat.lt_trans k4 (by decide)) k3, by rw [wi (by omega) (by omega)]; simp, by rw [p1], by omega, by omega⟩) | (obtain ⟨p1, p2⟩ := parts_f hC hk hb1; exact ⟨k + 1, by rw [p2], by rw [wi (by omega) (by omega)]; simp, by rw [p1], by omega, by omega⟩)
    · intro hb0
      try simp only [decide_eq_true_eq, decide_eq_false_iff_not, beq_eq_false_iff_ne, bne_eq_false_iff_eq, Bool.not_eq_false', Bool.and_eq_false_imp] at hb0
      try simp only [nth_gi, nth_row] at hb0
      refine r_exit ?_
      refine k_seq_exit ?_
      refine k_round_exit ?_
      refine k_block_exit ?_
      refine k_seq ?_
      refine r_seq ?_
      refine q_region hG ?_ ?_ -- R10
      · first | trivial | omega | (simp; done) | (simp; omega)
      refine k_seq ?_
      refine r_ret ?_
      refine ⟨[], ?_⟩
      simp only [hT, tab31, mr0, mr1, mr2, isNilP, Nat.reduceLT, Nat.reduceEqDiff, Nat.reduceAdd, Nat.reduceMul, Nat.reduceSub, Nat.reduceLeDiff, Nat.reduceBEq, Nat.reduceBNe, reduceIte, reduceDIte, reduceCtorEq]
      rw [partsK_end (by omega)]

end Go.Proofs.YtcopdikdkkdlfaaDoor
end

section
/- The functions of the package graph, one after the other: each meets its contract. -/
set_option linter.unusedSimpArgs false
set_option linter.unusedVariables false
set_option maxRecDepth 100000
namespace Go.Proofs.YtcopdikdkkdlfaaDoor
open Go Go.Cm Go.Cm.Gr Go.Proofs

def tab32 (B : Base) : Tab := { types := [(3, (.int .i64)), (27, (.slice (.slice (.int .i64)))), (30, (.int .u64)), (37, (.slice (.int .u64)))], elems := [(37, 30)], cons := [(27, cRefReach), (31, cRefParts)], hint := [7], N := 33, base := B }
theorem good32 {B : Base} (hB : Tabs B) : MGood Tryd.prog (tab32 B) := ⟨⟨types_cons ty3 (types_cons ty27 (types_cons ty30 (types_cons ty37 (types_nil)))), elems_cons (by kernel_rfl) (elems_nil), by simp only [tab32, ioB]; omega⟩, cons_ok (cals_cons (cal_ok Tryd.func27 (by kernel_rfl) rfl (valid27 hB)) (cals_cons (cal_ok Tryd.func31 (by kernel_rfl) rfl (valid31 hB)) (cals_nil))), by kernel_rfl⟩
def cRefBottom : Con := fun l os => match l, os with
  | [.z (.slice (.slice (.int .i64))) g], [] => some (Val g, [.z (.slice (.int .u64)) (botG g)], [])
  | _, _ => none

theorem valid32 {B : Base} (hB : Tabs B) : Valid B Tryd.prog 32 cRefBottom := by
  refine valid_of_J (T := tab32 B) (good32 hB).tab Tryd.func32 rfl rfl rfl ?_
  intro args os C rs os' hc hC
  unfold cRefBottom at hc
  split at hc
  case h_2 => cases hc
  rename_i g
  cases hc
  refine ⟨by simp only [List.length_cons, List.length_nil, tab32]; omega, rfl, ?_⟩
  intro X hP hT hr
  have hG : MGood X.P X.T := by rw [hP, hT]; exact good32 hB
  unfold tab32 at hT
  have hX := And.intro (@cRefParts.eq_1) <| @cRefReach.eq_1
  simp only [Tryd.f32, argEnv, ioList, ioB]
  refine r_seq ?_
  have n1 := hC.one
  have n2 := hC.most
  obtain ⟨l1, l2⟩ := parts_lims hC
  refine q_region hG ?_ ?_ -- R0
  · first | trivial | omega | (simp; done) | (simp; omega)
  refine k_seq ?_
  refine r_seq ?_
  refine q_region hG ?_ ?_ -- R1
  · first | trivial | omega | (simp; done) | (simp; omega)
  refine k_seq ?_
  refine r_seq ?_
  refine q_region hG ?_ ?_ -- R2
  · try simp only [and_true, true_and]
    exact hC
  refine k_seq ?_
  refine r_seq ?_
  refine r_seq ?_
  refine q_region hG ?_ ?_ -- R3
  · first | trivial | omega | (simp; done) | (simp; omega)
  refine k_seq ?_
  refine j_block ?_
  refine j_loop (fun (z : Nat) => (⟨[(0, .l (.z (.slice (.slice (.int .i64))) g)), (2, .l (.val (.slice none 0 0))), (3, .l (.ownS 100)), (4, .l (.z (.slice (.int .u64)) (partsG g))), (5, .l (.z (.int .i64) (z : Int)))], [(100, .arr (.int .u64) 30 (((partsG g).take z).filter (isBot g)))]⟩ : AState)) (fun z => z ≤ (partsG g).length) (fun z => (partsG g).length - z) 0 ?_ ?_ ?_
  · simp only [ml0, ml1, Nat.reduceLT, Nat.reduceEqDiff, Nat.reduceAdd, Nat.reduceMul, Nat.reduceSub, Nat.reduceLeDiff, Nat.reduceBEq, Nat.reduceBNe, reduceIte, reduceDIte, reduceCtorEq]
    exact ⟨rfl, by decide, rfl⟩
  · omega
  · rintro k g1
    try dsimp only at g1
    refine r_seq ?_
    refine r_seq ?_
    refine q_region hG ?_ ?_ -- R4
    · first | trivial | omega | (simp; done) | (simp; omega)
    refine k_seq ?_
    refine q_cond ?_ ?_
    · intro hb0
      try simp only [decide_eq_true_eq, decide_eq_false_iff_not, beq_iff_eq, bne_iff_ne, Bool.not_eq_true', Bool.and_eq_true] at hb0
      try simp only [nth_gi, nth_row] at hb0
      refine r_skip ?_
      refine k_seq ?_
      refine r_seq ?_
      refine j_block ?_
      refine r_seq ?_
      refine q_draw hG ?_ ?_ -- R6
      · try simp only [and_true, true_and]
        simp only [nth_gi]
        have hk : (k : Int) < ((partsG g).length : Int) := hb0
        obtain ⟨m, e1, e2, _⟩ := part_at hC (k := k) (by omega)
        rw [e1, Int.toNat_natCast]
        exact ⟨⟨by omega, hk⟩, ⟨hC, u64_nat (lt32 hC e2), e2⟩, by omega, hk⟩
      refine k_seq ?_
      refine q_cond ?_ ?_
      · intro hb1
        try simp only [decide_eq_true_eq, decide_eq_false_iff_not, beq_iff_eq, bne_iff_ne, Bool.not_eq_true', Bool.and_eq_true] at hb1
        try simp only [nth_gi, nth_row] at hb1
        refine q_region hG ?_ ?_ -- R7
        · try simp only [and_true, true_and]
          have hk : (k : Int) < ((partsG g).length : Int) := hb0
          have h1 := filter_len (p := isBot g) (l := partsG g) (k := k)
          refine ⟨⟨by omega, hb0⟩, roomy1 ?_⟩
          exact Nat.le_trans (Nat.succ_le_succ (Nat.le_trans h1 l1)) (by decide)
        refine k_block ?_
        refine k_seq ?_
        refine q_region hG ?_ ?_ -- R5
        · first | trivial | omega | (simp; done) | (simp; omega)
        show ∃ z, _
        simp only [ml0, ml1, Nat.reduceLT, Nat.reduceEqDiff, Nat.reduceAdd, Nat.reduceMul, Nat.reduceSub, Nat.reduceLeDiff, Nat.reduceBEq, Nat.reduceBNe, reduceIte, reduceDIte, reduceCtorEq]
        have hk : (k : Int) < ((partsG g).length : Int) := hb0
        first | exact ⟨k + 1, by rw [wi (by omega) (by omega)]; simp, by rw [nth_gi, filter_t (by omega) (decide_eq_true hb1)], by omega, by omega⟩ | exact ⟨k + 1, by rw [wi (by omega) (by omega)]; simp, by rw [filter_f (by omega) (decide_eq_false hb1)], by omega, by omega⟩
      · intro hb1
        try simp only [decide_eq_true_eq, decide_eq_false_iff_not, beq_eq_false_iff_ne, bne_eq_false_iff_eq, Bool.not_eq_false', Bool.and_eq_false_imp] at hb1
        try simp only [nth_gi, nth_row] at hb1
        refine r_skip ?_
        refine k_block ?_
        refine k_seq ?_
        refine q_region hG ?_ ?_ -- R5
        · first | trivial | omega | (simp; done) | (simp; omega)
        show ∃ z, _
        simp only [ml0, ml1, Nat.reduceLT, Nat.reduceEqDiff, Nat.reduceAdd, Nat.reduceMul, Nat.reduceSub, Nat.reduceLeDiff, Nat.reduceBEq, Nat.reduceBNe, reduceIte, reduceDIte, reduceCtorEq]
        have hk : (k : Int) < ((partsG g).length : Int) := hb0
        first | exact ⟨k + 1, by rw [wi (by omega) (by omega)]; simp, by rw [nth_gi, filter_t (by omega) (decide_eq_true hb1)], by omega, by omega⟩ | exact ⟨k + 1, by rw [wi (by omega) (by omega)]; simp, by rw [filter_f (by omega) (decide_eq_false hb1)], by omega, by omega⟩
    · intro hb0
      try simp only [decide_eq_true_eq, decide_eq_false_iff_not, beq_eq_false_iff_ne, bne_eq_false_iff_eq, Bool.not_eq_false', Bool.and_eq_false_imp] at hb0
      try simp only [nth_gi, nth_row] at hb0
      refine r_exit ?_
      refine k_seq_exit ?_
      refine k_round_exit ?_
      refine k_block_exit ?_
      refine k_seq ?_
      refine r_seq ?_
      refine q_region hG ?_ ?_ -- R8
      · first | trivial | omega | (simp; done) | (simp; omega)
      refine k_seq ?_
      refine r_ret ?_
      refine ⟨[], ?_⟩
      simp only [hT, tab32, mr0, mr1, mr2, isNilP, Nat.reduceLT, Nat.reduceEqDiff, Nat.reduceAdd, Nat.reduceMul, Nat.reduceSub, Nat.reduceLeDiff, Nat.reduceBEq, Nat.reduceBNe, reduceIte, reduceDIte, reduceCtorEq]
      have hk : ¬ (k : Int) < ((partsG g).length : Int) := hb0
      exact filter_end (by omega)

end Go.Proofs.YtcopdikdkkdlfaaDoor
end

section
/- The functions of the package graph, one after the other: each meets its contract. -/
set_option linter.unusedSimpArgs false
set_option linter.unusedVariables false
set_option maxRecDepth 100000
namespace Go.Proofs.YtcopdikdkkdlfaaDoor
open Go Go.Cm Go.Cm.Gr Go.Proofs

def tab33 (B : Base) : Tab := { types := [(3, (.int .i64)), (27, (.slice (.slice (.int .i64)))), (30, (.int .u64)), (36, (.slice (.int .i64))), (84, (.int .u64))], elems := [(36, 3)], cons := [(47, cIn), (49, cEdge)], hint := [], N := 56, base := B }
theorem good33 {B : Base} (hB : Tabs B) : MGood Tryd.prog (tab33 B) := ⟨⟨types_cons ty3 (types_cons ty27 (types_cons ty30 (types_cons ty36 (types_cons ty84 (types_nil))))), elems_cons (by kernel_rfl) (elems_nil), by simp only [tab33, ioB]; omega⟩, cons_ok (cals_cons (cal_ok Tryd.func47 (by kernel_rfl) rfl (valid47 hB)) (cals_cons (cal_ok Tryd.func49 (by kernel_rfl) rfl (valid49 hB)) (cals_nil))), by kernel_rfl⟩
def cRefOrder : Con := fun l os => match l, os with
  | [.z (.slice (.slice (.int .i64))) g], [] => some (Val g, [.z (.slice (.int .i64)) (ordV g), .z .bool (ordB g)], [])
  | _, _ => none

theorem valid33 {B : Base} (hB : Tabs B) : Valid B Tryd.prog 33 cRefOrder := by
  refine valid_of_J (T := tab33 B) (good33 hB).tab Tryd.func33 rfl rfl rfl ?_
  intro args os C rs os' hc hC
  unfold cRefOrder at hc
  split at hc
  case h_2 => cases hc
  rename_i g
  cases hc
  refine ⟨by simp only [List.length_cons, List.length_nil, tab33]; omega, rfl, ?_⟩
  intro X hP hT hr
  have hG : MGood X.P X.T := by rw [hP, hT]; exact good33 hB
  unfold tab33 at hT
  have hX := And.intro (@cEdge.eq_1) <| @cIn.eq_1
  simp only [Tryd.f33, argEnv, ioList, ioB]
  refine r_seq ?_
  have n1 := hC.one
  have n2 := hC.most
  refine q_region hG ?_ ?_ -- R0
  · first | trivial | omega | (simp; done) | (simp; omega)
  refine k_seq ?_
  refine r_seq ?_
  refine q_region hG ?_ ?_ -- R1
  · first | trivial | omega | (simp; done) | (simp; omega)
  refine k_seq ?_
  refine r_seq ?_
  refine q_region hG ?_ ?_ -- R2
  · first | trivial | omega | (simp; done) | (simp; omega)
  refine k_seq ?_
  refine r_seq ?_
  refine j_block ?_
  refine j_loop (fun (z : List Nat) => (⟨[(0, .l (.z (.slice (.slice (.int .i64))) g)), (2, .l (.val (.slice none 0 0))), (3, .l (.z .bool false)), (4, .l (.ownS 100)), (5, .l (.z (.int .u64) (setOf z : Int)))], [(100, .arr (.int .i64) 3 (z.map Int.ofNat))]⟩ : AState)) (fun z => grd g z.length = some z ∧ z.length ≤ g.length) (fun z => g.length - z.length) [] ?_ ?_ ?_
  · simp only [ml0, ml1, Nat.reduceLT, Nat.reduceEqDiff, Nat.reduceAdd, Nat.reduceMul, Nat.reduceSub, Nat.reduceLeDiff, Nat.reduceBEq, Nat.reduceBNe, reduceIte, reduceDIte, reduceCtorEq]
    exact ⟨rfl, by decide⟩
  · exact ⟨rfl, Nat.zero_le _⟩
  · rintro l ⟨g1, g2⟩
    try dsimp only at g1 g2
    have q1 := grd_ord hC g1
    have q2 : setOf l < 2 ^ g.length := setOf_lt q1.lt
    refine r_seq ?_
    refine r_seq ?_
    refine q_region hG ?_ ?_ -- R3
    · first | trivial | omega | (simp; done) | (simp; omega)
    refine k_seq ?_
    refine q_cond ?_ ?_
    · intro hb0
      try simp only [decide_eq_true_eq, decide_eq_false_iff_not, beq_iff_eq, bne_iff_ne, Bool.not_eq_true', Bool.and_eq_true] at hb0
      try simp only [nth_gi, nth_row] at hb0
      refine r_skip ?_
      refine k_seq ?_
      refine j_block ?_
      refine r_seq ?_
      refine q_region hG ?_ ?_ -- R4
      · first | trivial | omega | (simp; done) | (simp; omega)
      refine k_seq ?_
      refine r_seq ?_
      refine r_seq ?_
      refine q_region hG ?_ ?_ -- R5
      · first | trivial | omega | (simp; done) | (simp; omega)
      refine k_seq ?_
      refine j_block ?_
      refine j_loop (fun (z : Nat) => (⟨[(0, .l (.z (.slice (.slice (.int .i64))) g)), (2, .l (.val (.slice none 0 0))), (3, .l (.z .bool false)), (4, .l (.ownS 100)), (5, .l (.z (.int .u64) (setOf l : Int))), (6, .l (.z (.int .i64) (leastD g l z))), (7, .l (.z (.int .i64) ((z : Int) - 1)))], [(100, .arr (.int .i64) 3 (l.map Int.ofNat))]⟩ : AState)) (fun z => z ≤ g.length) (fun z => z) g.length ?_ ?_ ?_
      · simp only [ml0, ml1, Nat.reduceLT, Nat.reduceEqDiff, Nat.reduceAdd, Nat.reduceMul, Nat.reduceSub, Nat.reduceLeDiff, Nat.reduceBEq, Nat.reduceBNe, reduceIte, reduceDIte, reduceCtorEq]
        exact ⟨(least_end (by omega)).symm, by rw [wi (by omega) (by omega)]⟩
      · omega
      · rintro y g3
        try dsimp only at g3
        refine r_seq ?_
        refine r_seq ?_
        refine q_region hG ?_ ?_ -- R6
        · first | trivial | omega | (simp; done) | (simp; omega)
        refine k_seq ?_
        refine q_cond ?_ ?_
        · intro hb1
          try simp only [decide_eq_true_eq, decide_eq_false_iff_not, beq_iff_eq, bne_iff_ne, Bool.not_eq_true', Bool.and_eq_true] at hb1
          try simp only [nth_gi, nth_row] at hb1
          obtain ⟨v, rfl⟩ : ∃ v, y = v + 1 := ⟨y - 1, by omega⟩
          refine r_skip ?_
          refine k_seq ?_
          refine r_seq ?_
          refine j_block ?_
          refine r_seq ?_
          refine q_region hG ?_ ?_ -- R8
          · try simp only [and_true, true_and]
            have e : (((v + 1 : Nat) : Int) - 1) = (v : Int) := by omega
            rw [e]
            exact ⟨u64_nat (lt32 hC q2), by show (0 : Int) ≤ (v : Int); omega, by show (v : Int) ≤ (64 : Int); omega⟩
          refine k_seq ?_
          refine r_seq ?_
          refine r_seq ?_
          refine q_region hG ?_ ?_ -- R9
          · first | trivial | omega | (simp; done) | (simp; omega)
          refine k_seq ?_
          refine j_block ?_
          refine j_loop (fun (z : Nat) => (⟨[(0, .l (.z (.slice (.slice (.int .i64))) g)), (2, .l (.val (.slice none 0 0))), (3, .l (.z .bool false)), (4, .l (.ownS 100)), (5, .l (.z (.int .u64) (setOf l : Int))), (6, .l (.z (.int .i64) (leastD g l (v + 1)))), (7, .l (.z (.int .i64) (v : Int))), (8, .l (.z .bool (readyW g l v z))), (9, .l (.z (.int .i64) (z : Int)))], [(100, .arr (.int .i64) 3 (l.map Int.ofNat))]⟩ : AState)) (fun z => z ≤ g.length) (fun z => g.length - z) 0 ?_ ?_ ?_
          · simp only [ml0, ml1, Nat.reduceLT, Nat.reduceEqDiff, Nat.reduceAdd, Nat.reduceMul, Nat.reduceSub, Nat.reduceLeDiff, Nat.reduceBEq, Nat.reduceBNe, reduceIte, reduceDIte, reduceCtorEq]
            have e : (((v + 1 : Nat) : Int) - 1) = (v : Int) := by omega
            exact ⟨e, by rw [e, readyW_zero, ← bits_of]; simp only [Int.toNat_natCast], rfl⟩
          · omega
          · rintro w g4
            try dsimp only at g4
            refine r_seq ?_
            refine r_seq ?_
            refine q_region hG ?_ ?_ -- R10
            · first | trivial | omega | (simp; done) | (simp; omega)
            refine k_seq ?_
            refine q_cond ?_ ?_
            · intro hb2
              try simp only [decide_eq_true_eq, decide_eq_false_iff_not, beq_iff_eq, bne_iff_ne, Bool.not_eq_true', Bool.and_eq_true] at hb2
              try simp only [nth_gi, nth_row] at hb2
              refine r_skip ?_
              refine k_seq ?_
              refine r_seq ?_
              refine j_block ?_
              refine r_seq ?_
              refine q_region hG ?_ ?_ -- R12
              · try simp only [and_true, true_and]
                have hw : (w : Int) < (g.length : Int) := hb2
                exact ⟨⟨u64_nat (lt32 hC q2), by show (0 : Int) ≤ (w : Int); omega, by show (w : Int) ≤ (64 : Int); omega⟩, fun h => ⟨h, hC, by show (0 : Int) ≤ (w : Int); omega, hw⟩, fun h => h⟩
              refine k_seq ?_
              refine q_cond ?_ ?_
              · intro hb3
                try simp only [decide_eq_true_eq, decide_eq_false_iff_not, beq_iff_eq, bne_iff_ne, Bool.not_eq_true', Bool.and_eq_true] at hb3
                try simp only [nth_gi, nth_row] at hb3
                refine q_region hG ?_ ?_ -- R13
                · first | trivial | omega | (simp; done) | (simp; omega)
                refine k_block ?_
                refine k_seq ?_
                refine q_region hG ?_ ?_ -- R11
                · first | trivial | omega | (simp; done) | (simp; omega)
                show ∃ z, _
                simp only [ml0, ml1, Nat.reduceLT, Nat.reduceEqDiff, Nat.reduceAdd, Nat.reduceMul, Nat.reduceSub, Nat.reduceLeDiff, Nat.reduceBEq, Nat.reduceBNe, reduceIte, reduceDIte, reduceCtorEq]
                simp only [Int.toNat_natCast] at hb3
                refine ⟨w + 1, ?_, by rw [wi (by omega) (by omega)]; simp, by omega, by omega⟩
                rw [readyW_succ, ← bits_of]
                first | (rw [hb3.1, hb3.2]; simp; done) | (cases hs : (setOf l).testBit w with
| true => simp
| false => rw [hb3 (by rw [hs]; rfl)]; simp)
              · intro hb3
                try simp only [decide_eq_true_eq, decide_eq_false_iff_not, beq_eq_false_iff_ne, bne_eq_false_iff_eq, Bool.not_eq_false', Bool.and_eq_false_imp] at hb3
                try simp only [nth_gi, nth_row] at hb3
                refine r_skip ?_
                refine k_block ?_
                refine k_seq ?_
                refine q_region hG ?_ ?_ -- R11
                · first | trivial | omega | (simp; done) | (simp; omega)
                show ∃ z, _
                simp only [ml0, ml1, Nat.reduceLT, Nat.reduceEqDiff, Nat.reduceAdd, Nat.reduceMul, Nat.reduceSub, Nat.reduceLeDiff, Nat.reduceBEq, Nat.reduceBNe, reduceIte, reduceDIte, reduceCtorEq]
                simp only [Int.toNat_natCast] at hb3
                refine ⟨w + 1, ?_, by rw [wi (by omega) (by omega)]; simp, by omega, by omega⟩
                rw [readyW_succ, ← bits_of]
                first | (rw [hb3.1, hb3.2]; simp; done) | (cases hs : (setOf l).testBit w with
| true => simp
| false => rw [hb3 (by rw [hs]; rfl)]; simp)
            · intro hb2
              try simp only [decide_eq_true_eq, decide_eq_false_iff_not, beq_eq_false_iff_ne, bne_eq_false_iff_eq, Bool.not_eq_false', Bool.and_eq_false_imp] at hb2
              try simp only [nth_gi, nth_row] at hb2
              refine r_exit ?_
              refine k_seq_exit ?_
              refine k_round_exit ?_
              refine k_block_exit ?_
              refine k_seq ?_
              refine r_seq ?_
              refine q_region hG ?_ ?_ -- R14
              · first | trivial | omega | (simp; done) | (simp; omega)
              refine k_seq ?_
              refine q_cond ?_ ?_
              · intro hb4
                try simp only [decide_eq_true_eq, decide_eq_false_iff_not, beq_iff_eq, bne_iff_ne, Bool.not_eq_true', Bool.and_eq_true] at hb4
                try simp only [nth_gi, nth_row] at hb4
                refine q_region hG ?_ ?_ -- R15
                · first | trivial | omega | (simp; done) | (simp; omega)
                refine k_block ?_
                refine k_seq ?_
                refine q_region hG ?_ ?_ -- R7
                · first | trivial | omega | (simp; done) | (simp; omega)
                show ∃ z, _
                simp only [ml0, ml1, Nat.reduceLT, Nat.reduceEqDiff, Nat.reduceAdd, Nat.reduceMul, Nat.reduceSub, Nat.reduceLeDiff, Nat.reduceBEq, Nat.reduceBNe, reduceIte, reduceDIte, reduceCtorEq]
                rw [readyW_end (by omega)] at hb4
                refine ⟨v, ?_, by rw [wi (by omega) (by omega)], by omega, by omega⟩
                first | exact (least_t (by omega) hb4).symm | exact (least_f (by omega) hb4).symm
              · intro hb4
                try simp only [decide_eq_true_eq, decide_eq_false_iff_not, beq_eq_false_iff_ne, bne_eq_false_iff_eq, Bool.not_eq_false', Bool.and_eq_false_imp] at hb4
                try simp only [nth_gi, nth_row] at hb4
                refine r_skip ?_
                refine k_block ?_
                refine k_seq ?_
                refine q_region hG ?_ ?_ -- R7
                · first | trivial | omega | (simp; done) | (simp; omega)
                show ∃ z, _
                simp only [ml0, ml1, Nat.reduceLT, Nat.reduceEqDiff, Nat.reduceAdd, Nat.reduceMul, Nat.reduceSub, Nat.reduceLeDiff, Nat.reduceBEq, Nat.reduceBNe, reduceIte, reduceDIte, reduceCtorEq]
                rw [readyW_end (by omega)] at hb4
                refine ⟨v, ?_, by rw [wi (by omega) (by omega)], by omega, by omega⟩
                first | exact (least_t (by omega) hb4).symm | exact (least_f (by omega) hb4).symm
        · intro hb1
          try simp only [decide_eq_true_eq, decide_eq_false_iff_not, beq_eq_false_iff_ne, bne_eq_false_iff_eq, Bool.not_eq_false', Bool.and_eq_false_imp] at hb1
          try simp only [nth_gi, nth_row] at hb1
          refine r_exit ?_
          refine k_seq_exit ?_
          refine k_round_exit ?_
          refine k_block_exit ?_
          refine k_seq ?_
          refine r_seq ?_
          refine r_seq ?_
          refine q_region hG ?_ ?_ -- R16
          · first | trivial | omega | (simp; done) | (simp; omega)
          refine k_seq ?_
          refine q_cond ?_ ?_
          · intro hb5
            try simp only [decide_eq_true_eq, decide_eq_false_iff_not, beq_iff_eq, bne_iff_ne, Bool.not_eq_true', Bool.and_eq_true] at hb5
            try simp only [nth_gi, nth_row] at hb5
            refine r_seq ?_
            refine q_region hG ?_ ?_ -- R17
            · first | trivial | omega | (simp; done) | (simp; omega)
            refine k_seq ?_
            refine r_ret ?_
            refine k_seq_ret ?_
            refine k_block_ret ?_
            refine k_round_ret ?_
            refine k_block_ret ?_
            refine k_seq_ret ?_
            refine ⟨[], ?_⟩
            simp only [hT, tab33, mr0, mr1, mr2, isNilP, Nat.reduceLT, Nat.reduceEqDiff, Nat.reduceAdd, Nat.reduceMul, Nat.reduceSub, Nat.reduceLeDiff, Nat.reduceBEq, Nat.reduceBNe, reduceIte, reduceDIte, reduceCtorEq]
            have hlen : l.length < g.length := by have h : ((l.map Int.ofNat).length : Int) < (g.length : Int) := hb0; rw [List.length_map] at h; omega
            have hy : y = 0 := by omega
            subst hy
            rw [(ord_stuck g1 hlen (least_none hb5)).1, ordB_stuck g1 hlen (least_none hb5)]
            exact ⟨rfl, rfl⟩
          · intro hb5
            try simp only [decide_eq_true_eq, decide_eq_false_iff_not, beq_eq_false_iff_ne, bne_eq_false_iff_eq, Bool.not_eq_false', Bool.and_eq_false_imp] at hb5
            try simp only [nth_gi, nth_row] at hb5
            refine r_skip ?_
            refine k_seq ?_
            refine r_seq ?_
            refine q_region hG ?_ ?_ -- R18
            · try simp only [and_true, true_and]
              rw [List.length_map]
              exact roomy1 (by omega)
            refine k_seq ?_
            refine q_region hG ?_ ?_ -- R19
            · try simp only [and_true, true_and]
              have hy : y = 0 := by omega
              subst hy
              obtain ⟨x, hx, hx2⟩ := least_some hb5
              have := (pick_some hx).1
              rw [hx2, conv64 (Int.natCast_nonneg _) (by omega)]
              exact Int.natCast_nonneg _
            refine k_block ?_
            show ∃ z, _
            simp only [ml0, ml1, Nat.reduceLT, Nat.reduceEqDiff, Nat.reduceAdd, Nat.reduceMul, Nat.reduceSub, Nat.reduceLeDiff, Nat.reduceBEq, Nat.reduceBNe, reduceIte, reduceDIte, reduceCtorEq]
            have hlen : l.length < g.length := by have h : ((l.map Int.ofNat).length : Int) < (g.length : Int) := hb0; rw [List.length_map] at h; omega
            have hy : y = 0 := by omega
            subst hy
            obtain ⟨x, hx, hx2⟩ := least_some hb5
            have hxl := (pick_some hx).1
            have hf := grd_next g1 hx
            have hll : (l ++ [x]).length = l.length + 1 := by simp
            rw [hx2]
            exact ⟨l ++ [x], setOf_put q2 n2 (by omega), by simp, hf, by omega, by omega⟩
    · intro hb0
      try simp only [decide_eq_true_eq, decide_eq_false_iff_not, beq_eq_false_iff_ne, bne_eq_false_iff_eq, Bool.not_eq_false', Bool.and_eq_false_imp] at hb0
      try simp only [nth_gi, nth_row] at hb0
      refine r_exit ?_
      refine k_seq_exit ?_
      refine k_round_exit ?_
      refine k_block_exit ?_
      refine k_seq ?_
      refine r_seq ?_
      refine q_region hG ?_ ?_ -- R20
      · first | trivial | omega | (simp; done) | (simp; omega)
      refine k_seq ?_
      refine r_ret ?_
      refine ⟨[], ?_⟩
      simp only [hT, tab33, mr0, mr1, mr2, isNilP, Nat.reduceLT, Nat.reduceEqDiff, Nat.reduceAdd, Nat.reduceMul, Nat.reduceSub, Nat.reduceLeDiff, Nat.reduceBEq, Nat.reduceBNe, reduceIte, reduceDIte, reduceCtorEq]
      have hlen : ¬ ((l.map Int.ofNat).length : Int) < (g.length : Int) := hb0
      rw [List.length_map] at hlen
      have hl2 : l.length = g.length := by omega
      rw [(ord_done g1 hl2).1, ordB_done g1 hl2]
      exact ⟨rfl, rfl⟩

end Go.Proofs.YtcopdikdkkdlfaaDoor
end

section
/- The functions of the package graph, one after the other: each meets its contract. -/
set_option linter.unusedSimpArgs false
set_option linter.unusedVariables false
set_option maxRecDepth 100000
namespace Go.Proofs.YtcopdikdkkdlfaaDoor
open Go Go.Cm Go.Cm.Gr Go.Proofs

def tab24 (B : Base) : Tab := { types := [(3, (.int .i64)), (27, (.slice (.slice (.int .i64)))), (36, (.slice (.int .i64)))], elems := [(27, 36)], cons := [(46, cClone)], hint := [], N := 27, base := B }
theorem good24 {B : Base} (hB : Tabs B) : MGood Tryd.prog (tab24 B) := ⟨⟨types_cons ty3 (types_cons ty27 (types_cons ty36 (types_nil))), elems_cons (by kernel_rfl) (elems_nil), by simp only [tab24, ioB]; omega⟩, cons_ok (cals_cons (cal_ok Tryd.func46 (by kernel_rfl) rfl (valid46 hB)) (cals_nil)), by kernel_rfl⟩
def cFew : Con := fun l os => match l, os with
  | [.z (.slice (.slice (.int .i64))) g], [] => some (True, [.z (.slice (.slice (.int .i64))) (fewG g)], [])
  | _, _ => none

theorem valid24 {B : Base} (hB : Tabs B) : Valid B Tryd.prog 24 cFew := by
  refine valid_of_J (T := tab24 B) (good24 hB).tab Tryd.func24 rfl rfl rfl ?_
  intro args os C rs os' hc hC
  unfold cFew at hc
  split at hc
  case h_2 => cases hc
  rename_i g
  cases hc
  refine ⟨by simp only [List.length_cons, List.length_nil, tab24]; omega, rfl, ?_⟩
  intro X hP hT hr
  have hG : MGood X.P X.T := by rw [hP, hT]; exact good24 hB
  unfold tab24 at hT
  have hX := @cClone.eq_1
  simp only [Tryd.f24, argEnv, ioList, ioB]
  refine r_seq ?_
  refine q_region hG ?_ ?_ -- R0
  · first | trivial | omega | (simp; done) | (simp; omega)
  refine k_seq ?_
  refine r_seq ?_
  refine q_region hG ?_ ?_ -- R1
  · first | trivial | omega | (simp; done) | (simp; omega)
  refine k_seq ?_
  refine r_seq ?_
  refine r_seq ?_
  refine q_region hG ?_ ?_ -- R2
  · try simp only [and_true, true_and]
    omega
  refine k_seq ?_
  refine j_block ?_
  refine j_loop (fun (z : Nat) => (⟨[(0, .l (.z (.slice (.slice (.int .i64))) g)), (2, .l (.val (.slice none 0 0))), (3, .l (.ownS 100)), (10, .l (.z (.slice (.slice (.int .i64))) (g.take 33))), (11, .l (.z (.int .i64) ((g.take 33).length : Int))), (12, .l (.z (.int .i64) (z : Int)))], [(100, .arr (.slice (.int .i64)) 36 ((g.take z).map fun r => r.take 33))]⟩ : AState)) (fun z => z ≤ (g.take 33).length) (fun z => (g.take 33).length - z) 0 ?_ ?_ ?_
  · simp only [ml0, ml1, Nat.reduceLT, Nat.reduceEqDiff, Nat.reduceAdd, Nat.reduceMul, Nat.reduceSub, Nat.reduceLeDiff, Nat.reduceBEq, Nat.reduceBNe, reduceIte, reduceDIte, reduceCtorEq]
    simp only [few_cut]
    exact ⟨trivial, trivial, rfl, by decide⟩
  · omega
  · rintro k g1
    try dsimp only at g1
    refine r_seq ?_
    refine q_region hG ?_ ?_ -- R3
    · first | trivial | omega | (simp; done) | (simp; omega)
    refine k_seq ?_
    refine r_seq ?_
    refine q_cond ?_ ?_
    · intro hb0
      try simp only [decide_eq_true_eq, decide_eq_false_iff_not, beq_iff_eq, bne_iff_ne, Bool.not_eq_true', Bool.and_eq_true] at hb0
      try simp only [nth_gi, nth_row] at hb0
      refine r_skip ?_
      refine k_seq ?_
      refine r_seq ?_
      refine j_block ?_
      refine r_seq ?_
      refine q_region hG ?_ ?_ -- R4
      · try simp only [and_true, true_and]
        exact ⟨by omega, hb0⟩
      refine k_seq ?_
      refine q_region hG ?_ ?_ -- R5
      · try simp only [and_true, true_and]
        have hk : k < (g.take 33).length ∧ k < 33 := by
          have h : (k : Int) < ((g.take 33).length : Int) := hb0
          have h2 : (g.take 33).length ≤ 33 := by rw [List.length_take]; exact Nat.min_le_left _ _
          omega
        obtain ⟨hk, h33⟩ := hk
        have hk2 : k < g.length := by rw [List.length_take] at hk; omega
        simp only [nth_row, few_at hk, few_cut]
        refine ⟨?_, Nat.le_trans (by rw [List.length_take]; exact Nat.min_le_left _ _) (by decide : 33 ≤ 1000000), roomy1 ?_⟩
        · omega
        · rw [List.length_map, List.length_take]; omega
      refine k_block ?_
      refine k_seq ?_
      refine q_region hG ?_ ?_ -- R6
      · first | trivial | omega | (simp; done) | (simp; omega)
      show ∃ z, _
      simp only [ml0, ml1, Nat.reduceLT, Nat.reduceEqDiff, Nat.reduceAdd, Nat.reduceMul, Nat.reduceSub, Nat.reduceLeDiff, Nat.reduceBEq, Nat.reduceBNe, reduceIte, reduceDIte, reduceCtorEq]
      have hk : k < (g.take 33).length ∧ k < 33 := by
        have h : (k : Int) < ((g.take 33).length : Int) := hb0
        have h2 : (g.take 33).length ≤ 33 := by rw [List.length_take]; exact Nat.min_le_left _ _
        omega
      obtain ⟨hk, h33⟩ := hk
      have hk2 : k < g.length := by rw [List.length_take] at hk; omega
      simp only [nth_row, few_at hk, few_cut]
      exact ⟨k + 1, by rw [wi (by omega) (by omega)]; simp, (fewK_succ hk2).symm, by omega, by omega⟩
    · intro hb0
      try simp only [decide_eq_true_eq, decide_eq_false_iff_not, beq_eq_false_iff_ne, bne_eq_false_iff_eq, Bool.not_eq_false', Bool.and_eq_false_imp] at hb0
      try simp only [nth_gi, nth_row] at hb0
      refine r_exit ?_
      refine k_seq_exit ?_
      refine k_round_exit ?_
      refine k_block_exit ?_
      refine k_seq ?_
      refine r_seq ?_
      refine q_region hG ?_ ?_ -- R7
      · first | trivial | omega | (simp; done) | (simp; omega)
      refine k_seq ?_
      refine r_ret ?_
      refine ⟨[], ?_⟩
      simp only [hT, tab24, mr0, mr1, mr2, isNilP, Nat.reduceLT, Nat.reduceEqDiff, Nat.reduceAdd, Nat.reduceMul, Nat.reduceSub, Nat.reduceLeDiff, Nat.reduceBEq, Nat.reduceBNe, reduceIte, reduceDIte, reduceCtorEq]
      exact few_end g1 (fun h => hb0 (by show (k : Int) < ((g.take 33).length : Int); omega))

end Go.Proofs.YtcopdikdkkdlfaaDoor
end
