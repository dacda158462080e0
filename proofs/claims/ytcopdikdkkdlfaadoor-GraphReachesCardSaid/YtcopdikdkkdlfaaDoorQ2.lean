/- Merged by a program out of several texts. -/
import Derived.Test.YtcopdikdkkdlfaaDoorQ1
import Derived.Deep.AppendSrc
import Derived.Deep.LoopGhost
set_option linter.all false
set_option linter.unusedSimpArgs false
set_option linter.unusedVariables false

section
/- The machine is right: the operations that make memory or write it. -/
namespace Go.Cm
open Go.RowKit

theorem no_defer {P : Program} {o : Oper} {ρ : Operand → Value} {w w' : World} {x : Next} (h : (execOp ρ o).run P w = .ok x w') (hx : ∀ d, x ≠ .defer d) : ∀ c, o.op ≠ .defer c := by
  intro c hc
  unfold execOp at h
  rw [hc] at h
  simp only [Sem.run_bind] at h
  cases hr : (resolve ρ c o.type).run P w with
  | ok d w1 =>
    rw [hr] at h
    simp at h
    exact hx _ h.1.symm
  | halt e w1 => rw [hr] at h; simp at h

theorem wp_of_value {P : Program} {o : Oper} {a : Act} {w w' : World} {v : Value} {r : Option Nat} {n : Nat} {K : Act → World → Prop} {Q : Exit → Act → World → Prop} (h : (execOp a.eval o).run P w = .ok (.value v) w') (hk : K (a.put o.dst v) w') : o.wpIn (fw r) n P a w K Q := by
  refine ⟨fun _ _ => trivial, ?_⟩
  rw [Oper.semAt_eq _ _ _ (no_defer h (by simp)), h]; exact hk
theorem wp_of_skip {P : Program} {o : Oper} {a : Act} {w w' : World} {r : Option Nat} {n : Nat} {K : Act → World → Prop} {Q : Exit → Act → World → Prop} (h : (execOp a.eval o).run P w = .ok .skip w') (hk : K (a.put o.dst undef) w') : o.wpIn (fw r) n P a w K Q := by
  refine ⟨fun _ _ => trivial, ?_⟩
  rw [Oper.semAt_eq _ _ _ (no_defer h (by simp)), h]; exact hk
theorem calls_fw {P : Program} {r : Option Nat} {n : Nat} {f : FuncId} {args : Array Value} {w : World} {R : Ending → World → Prop} (h : Calls P f args w R) : CallsIn (fw r) n P f args w R := (callsIn_wide (n := n)).2 h
theorem wp_of_enter {P : Program} {o : Oper} {a : Act} {w w' : World} {f : FuncId} {args : Array Value} {r : Option Nat} {n : Nat} {K : Act → World → Prop} {Q : Exit → Act → World → Prop} (h : (execOp a.eval o).run P w = .ok (.enter f args) w') (hk : Calls P f args w' fun e w'' => ∃ v, e = .returned v ∧ K (a.put o.dst v) w'') : o.wpIn (fw r) n P a w K Q := by
  refine ⟨fun _ _ => trivial, ?_⟩
  rw [Oper.semAt_eq _ _ _ (no_defer h (by simp)), h, Oper.uponIn_enter]
  refine ⟨fun hd => by simp [fw, Fence.wide] at hd, (calls_fw hk).mono ?_⟩
  rintro e w'' ⟨v, rfl, hk⟩
  exact hk

theorem Fits.hot_lt {X : Cx} {s : AState} {a : Act} {w : World} {ρ : Nat → Value} (h : Fits X s a w ρ) (hO : ∀ b, X.O b → ¬ X.M b) (hb : Bel X.M X.w0 w) {b : Nat} (hh : hot X.O ρ s.own b) : b < w.heap.size := by
  rcases hh with hh | ⟨p, hp, hp2⟩
  · exact Nat.lt_of_lt_of_le (Nat.lt_of_not_le fun hle => hO b hh (.inl hle)) hb.size
  · exact ((h.own p hp).lt hp2).2

theorem Fits.keep {X : Cx} {s : AState} {a : Act} {w w' : World} {ρ : Nat → Value} (h : Fits X s a w ρ) (hk : ∀ k, k < w.heap.size → w'.heap[k]? = w.heap[k]?) : Fits X s a w' ρ := by
  have hs : Stays (hot X.O ρ s.own) w w' := fun b _ hb => hk b (cells_lt hb)
  refine ⟨fun e he => ?_, fun p hp => ?_, h.io, h.apart⟩
  · have := RepV_map (f := id) (fun x v hx => RepL_move (fun _ _ h => h) hs (fun _ _ => rfl) hx) (h.env e he)
    have e2 : e.2.map id = e.2 := by cases e.2 <;> simp [AV.map]
    rwa [e2] at this
  · exact (h.own p hp).move_id (fun _ _ h => h) hs (fun b hb => hk b ((h.own p hp).lt hb).2)

theorem alloc_keep (w : World) (o : Obj) (k : Nat) (h : k < w.heap.size) : (w.alloc o).heap[k]? = w.heap[k]? := Below.heap_alloc w o k h

theorem RepL_keep {H : Nat → Prop} {w w' : World} {ρ : Nat → Value} (hk : ∀ k, k < w.heap.size → w'.heap[k]? = w.heap[k]?) {x : LV} {v : Value} (h : RepL H w ρ x v) : RepL H w' ρ x v :=
  RepL_move (fun _ _ h => h) (fun b _ hb => hk b (cells_lt hb)) (fun _ _ => rfl) h

/-- A new variable of pure data that nobody writes. -/
theorem rep_new {H : Nat → Prop} {w : World} {ρ : Nat → Value} {t : Ty} {y : t.D} {v : Value} {e : TypeId} (hH : ¬ H w.heap.size) (h : RepL H w ρ (.z t y) v) : RepL H (w.alloc (.cells v.cells e)) ρ (.z (.ptr t) y) (.pointer (some ⟨w.heap.size, 0, none⟩)) := by
  have h2 := RepL_keep (fun k hk => alloc_keep w (.cells v.cells e) k hk) h
  refine ⟨rfl, w.heap.size, 0, v.cells.toList, rfl, h2.2, fun _ => hH, fun j hj => ?_⟩
  rw [Nat.zero_add, cell_of_row _ _ j v.cells e (0, 0) (heap_alloc_new w _)]
  simp

theorem run_alloc {P : Program} {T : TypeId} {t : Ty} (ht : TyOK P T t) (w : World) : (Instr.alloc T true (.tuple #[])).run P w = .ok (.pointer (some ⟨w.heap.size, 0, none⟩)) (w.alloc (.cells (mkV t.isAgg t.zeroCells).cells T)) := by
  obtain ⟨i, d, hi, hu, hsz, hrow, hz, _⟩ := ht
  simp [Instr.alloc, zeroValue, typeInfo, hi, hz, newVar, newRow]

theorem TyOK.leaf {P : Program} {T : TypeId} {t : Ty} (ht : TyOK P T t) : t.isAgg = false → t.w = 1 := by
  obtain ⟨_, _, _, _, _, _, _, hs⟩ := ht
  intro ha
  refine Ty.w_of_leaf ha ?_ ?_
  · rintro rfl; exact hs
  · rintro a b rfl; exact hs

theorem effOp_alloc {X : Cx} (hT : TabOK X.P X.T) {s s' : AState} {a : Act} {w : World} (h : St X s a w) {o : Oper} {d : Nat} {e : TypeId} (hop : o.op = .alloc e) (hd : o.dst = some d) (hdN : X.T.ok d = true) {C : Prop} (he : effOp X.T s (some d) (.alloc e) = some (C, s'))
    {K : Act → World → Prop} {Q : Exit → Act → World → Prop} (hK : ∀ a' w', St X s' a' w' → K a' w') : o.wpIn (fw X.r) 2 X.P a w K Q := by
  simp only [effOp] at he
  split at he
  · rename_i d' t hdd ht
    cases hdd
    · cases he
      obtain ⟨ρ, hf⟩ := h.fits
      have hty := hT.types _ _ ht
      refine wp_of_value (v := .pointer (some ⟨w.heap.size, 0, none⟩)) (w' := w.alloc (.cells (mkV t.isAgg t.zeroCells).cells e)) ?_ (hK _ _ ?_)
      · unfold execOp; rw [hop]; exact run_value (run_alloc hty w)
      · have hc := mkV_cells hty.leaf t.zeroCells t.zeroCells_length t.zeroCells_one
        have hb : Bel X.M X.w0 (w.alloc (.cells (mkV t.isAgg t.zeroCells).cells e)) := h.below.alloc _
        obtain ⟨ρ', h1, h2⟩ := hf.fresh (Nat.lt_of_lt_of_le (Tab.ok_lt hdN) h.small.n) (w' := w.alloc (.cells (mkV t.isAgg t.zeroCells).cells e)) (d := d) (obj := .box e (t.zeroCells.map constLV)) (val := .pointer (some ⟨w.heap.size, 0, none⟩)) (fun k hk => alloc_keep _ _ k hk) (fun b hb => by simp [Blk] at hb; exact hb.symm)
          (fun H' ρ' _ _ _ hρd => ⟨w.heap.size, t.zeroCells, hρd, Cx.M_new h.below, by
            rw [heap_alloc_new]; congr 2; apply Array.ext'; simpa using hc, zero_const t⟩)
        rw [hd]
        have h3 := h2.put (d := d) (by rw [h.size]; exact Tab.ok_lt hdN) (v := .l (.ownP d 0)) (val := .pointer (some ⟨w.heap.size, 0, none⟩)) ⟨w.heap.size, h1, rfl⟩
        exact h.next hdN (KeepsOthers.alloc _ _) hb h3
  · cases he

theorem All2.kill {H H' : Nat → Prop} {w w' : World} {ρ ρ' : Nat → Value} {d : Nat} (hh : ∀ b, b < w.heap.size → H' b → H b) (hs : Stays H w w') (hρ : ∀ i, i ≠ d → ρ' i = ρ i) {cs : List LV} {vs : List Value} (hno : ∀ c ∈ cs, c.isOf d = false) (h : All2 (RepC H w ρ) cs vs) : All2 (RepC H' w' ρ') cs vs :=
  h.imp fun c v hc hr => ⟨RepL_move hh hs (fun i hi => hρ i (fun e => by rw [e] at hi; rw [hno c hc] at hi; cases hi)) hr.1, hr.2⟩

theorem effOp_box {X : Cx} {s s' : AState} {a : Act} {w : World} (h : St X s a w) {o : Oper} {d : Nat} {e : TypeId} {x : Operand} (hop : o.op = .box e x) (hd : o.dst = some d) (hdN : X.T.ok d = true) {C : Prop} (he : effOp X.T s (some d) (.box e x) = some (C, s'))
    {K : Act → World → Prop} {Q : Exit → Act → World → Prop} (hK : ∀ a' w', St X s' a' w' → K a' w') : o.wpIn (fw X.r) 2 X.P a w K Q := by
  simp only [effOp] at he
  obtain ⟨ρ, hf⟩ := h.fits
  have hrun : (execOp a.eval o).run X.P w = .ok (.value (.pointer (some ⟨w.heap.size, 0, none⟩))) (w.alloc (.cells (a.eval x).cells e)) := by
    unfold execOp; rw [hop]
    exact run_value (by simp [Instr.box, newVar, newRow])
  have hb : Bel X.M X.w0 (w.alloc (.cells (a.eval x).cells e)) := h.below.alloc _
  split at he
  · rename_i d' t hdd ht
    cases hdd
    split at he
    · split at he
      · rename_i v hv
        split at he
        · rename_i cs hcs
          split at he
          · rename_i hc
            cases he
            have hok := AV.cells_ok hcs (opnd_ok hf hv)
            have hno : ∀ c ∈ cs, c.isOf d = false := by
              intro c hc'
              have := List.all_eq_true.1 hc.2 c hc'
              simpa using this
            refine wp_of_value hrun (hK _ _ ?_)
            obtain ⟨ρ', h1, h2⟩ := hf.fresh (Nat.lt_of_lt_of_le (Tab.ok_lt hdN) h.small.n) (w' := w.alloc (.cells (a.eval x).cells e)) (d := d) (obj := .box e cs) (val := .pointer (some ⟨w.heap.size, 0, none⟩)) (fun k hk => alloc_keep _ _ k hk) (fun b hb => by simp [Blk] at hb; exact hb.symm)
              (fun H' ρ' hh hs hρ hρd => ⟨w.heap.size, (a.eval x).cells.toList, hρd, Cx.M_new h.below, by rw [heap_alloc_new], hok.kill hh hs hρ hno⟩)
            rw [hd]
            have h3 := h2.put (d := d) (by rw [h.size]; exact Tab.ok_lt hdN) (v := .l (.ownP d 0)) (val := .pointer (some ⟨w.heap.size, 0, none⟩)) ⟨w.heap.size, h1, rfl⟩
            exact h.next hdN (KeepsOthers.alloc _ _) hb h3
          · cases he
        · cases he
      · cases he
    · split at he
      · rename_i y s1 hy
        obtain ⟨g1, g2⟩ := pureArg_ok hf h.others hy
        refine wp_of_value hrun (hK _ _ ?_)
        have hH : ¬ hot X.O ρ s1.own w.heap.size := fun hh => Nat.lt_irrefl _ (g1.hot_lt h.others h.below hh)
        have g3 := g1.keep (w' := w.alloc (.cells (a.eval x).cells e)) (fun k hk => alloc_keep _ _ k hk)
        have h4 := rep_new (e := e) hH g2
        rw [hd]
        split at he
        · cases he
          have h3 := g3.put (d := d) (by rw [h.size]; exact Tab.ok_lt hdN) (v := .l (.z (.opt t) (some y))) (val := .pointer (some ⟨w.heap.size, 0, none⟩)) h4
          exact h.next hdN (KeepsOthers.alloc _ _) hb h3
        · cases he
          have h3 := g3.put (d := d) (by rw [h.size]; exact Tab.ok_lt hdN) (v := .l (.z (.ptr t) y)) (val := .pointer (some ⟨w.heap.size, 0, none⟩)) h4
          exact h.next hdN (KeepsOthers.alloc _ _) hb h3
      · cases he
  · cases he

theorem map_toList_eval (a : Act) (ps : Array (Nat × Operand)) : (ps.map fun (i, x) => (i, a.eval x)).toList = ps.toList.map fun (p : Nat × Operand) => (p.1, a.eval p.2) := by
  simp

theorem effOp_build {X : Cx} (hT : TabOK X.P X.T) {s s' : AState} {a : Act} {w : World} (h : St X s a w) {o : Oper} {d : Nat} {e : TypeId} {ps : Array (Nat × Operand)} (hop : o.op = .build e ps) (hd : o.dst = some d) (hdN : X.T.ok d = true) {C : Prop} (he : effOp X.T s (some d) (.build e ps) = some (C, s'))
    {K : Act → World → Prop} {Q : Exit → Act → World → Prop} (hK : ∀ a' w', St X s' a' w' → K a' w') : o.wpIn (fw X.r) 2 X.P a w K Q := by
  simp only [effOp] at he
  obtain ⟨ρ, hf⟩ := h.fits
  split at he
  · rename_i d' t hdd ht
    cases hdd
    split at he
    · rename_i cs hcs
      split at he
      · rename_i v hv
        cases he
        obtain ⟨r, h1, h2⟩ := buildCells_ok hf t.fields 0 ps.toList hcs
        have hrun := run_build_st (hT.types _ _ ht) (w := w) (ps := ps.map fun (i, x) => (i, a.eval x)) (r := r) (by rw [map_toList_eval]; exact h1)
        have hr := readCells_ok hv h2
        refine wp_of_value (by unfold execOp; rw [hop]; exact run_value hrun) (hK _ _ ?_)
        rw [hd]
        exact h.put hf hdN (by simpa [mkV, Ty.isAgg] using hr)
      · cases he
    · cases he
  · rename_i d' n t hdd ht
    cases hdd
    split at he
    · rename_i xs s1 hxs
      cases he
      have hty := hT.types _ _ ht
      obtain ⟨i, dd, hi, hu, hsz, hrow, hz, el, j, d', rfl, h2, h3, h4, h5, h6⟩ := hty
      obtain ⟨g1, g2, g3, r, g4, g5⟩ := litArgs_ok h.others h6 n 0 ps.toList hf hxs
      have hrun : (Instr.build e (ps.map fun (i, x) => (i, a.eval x))).run X.P w = .ok (.agg r.flatten.toArray) w := by
        refine run_build w e _ _ ?_
        unfold Program.built
        simp only [hi, hu, hz, h2, map_toList_eval]
        have := fill_segs (fun i => some (i * j.size, j.size)) (List.replicate n t.zeroCells) _ 0 [] r (fun k hk => by
          have := replicate_places n t.zeroCells k hk
          rw [Nat.zero_add, h3, ← t.zeroCells_length]; exact this) g4
        simpa [mkV, Ty.isAgg, Value.cells, Ty.zeroCells] using this
      refine wp_of_value (by unfold execOp; rw [hop]; exact run_value hrun) (hK _ _ ?_)
      rw [hd]
      have h8 := g1.put (d := d) (by rw [h.size]; exact Tab.ok_lt hdN) (v := .l (.z (.arr n t) xs)) (val := .agg r.flatten.toArray) ⟨rfl, g2, by simpa [Value.cells] using g5⟩
      exact h.next hdN (KeepsOthers.refl _) h.below h8
    · cases he
  · cases he

end Go.Cm
end

section
/- The machine is right: slices are made, written and appended to. -/
namespace Go.Cm
open Go.RowKit

theorem effOp_buildSlice {X : Cx} (hT : TabOK X.P X.T) {s s' : AState} {a : Act} {w : World} (h : St X s a w) {o : Oper} {d : Nat} {e : TypeId} {n : Nat} {ps : Array (Nat × Operand)} (hop : o.op = .buildSlice e n ps) (hd : o.dst = some d) (hdN : X.T.ok d = true) {C : Prop} (he : effOp X.T s (some d) (.buildSlice e n ps) = some (C, s'))
    {K : Act → World → Prop} {Q : Exit → Act → World → Prop} (hK : ∀ a' w', St X s' a' w' → K a' w') : o.wpIn (fw X.r) 2 X.P a w K Q := by
  simp only [effOp] at he
  obtain ⟨ρ, hf⟩ := h.fits
  split at he
  · rename_i d' t E hdd ht hE
    cases hdd
    split at he
    · rename_i xs s1 hxs
      split at he
      · rename_i hc
        have hty := hT.types _ _ ht
        have hel := hT.elems _ _ hE
        obtain ⟨i, dd, hi, hu, hsz, hrow, hz, el, j, rfl, h2, h3, h4, h5, h6⟩ := hty
        have hEe : E = el := by rw [hel] at hu; cases hu; rfl
        subst hEe
        obtain ⟨g1, g2, g3, r, g4, g5⟩ := litArgs_ok h.others h6 n 0 ps.toList hf hxs
        have hrun : ¬ n = 0 → (Instr.buildSlice e n (ps.map fun (i, x) => (i, a.eval x))).run X.P w = .ok (.slice (some ⟨w.heap.size, 0, none⟩) n n) (w.alloc (.cells r.flatten.toArray E)) := by
          intro hn
          refine run_buildSlice w e E n _ _ j _ hel h2 h5 (by rw [h3]; have := hc.1; omega) (by rw [h3]; intro h0; rcases Nat.mul_eq_zero.1 h0 with h0 | h0; exact hn h0; have := hc.2; omega) ?_
          rw [map_toList_eval]
          have := fill_segs (fun i => some (i * j.size, j.size)) (List.replicate n t.zeroCells) _ 0 [] r (fun k hk => by
            have := replicate_places n t.zeroCells k hk
            rw [Nat.zero_add, h3, ← t.zeroCells_length]; exact this) g4
          rw [h3] at this ⊢
          rw [range_zero' n h6 hc.2]
          simpa using this
        have hrun0 : n = 0 → (Instr.buildSlice e n (ps.map fun (i, x) => (i, a.eval x))).run X.P w = .ok (.slice (some ⟨w.heap.size, 0, none⟩) n n) (w.alloc (.cells r.flatten.toArray E)) := by
          intro hn
          subst hn
          have hps : ps.toList = [] := by
            cases hl : ps.toList with
            | nil => rfl
            | cons p l => rw [hl] at g4; simp [segs] at g4
          have hps' : ps = #[] := by apply Array.ext'; simpa using hps
          subst hps'
          simp [segs] at g4; subst g4
          simp [Instr.buildSlice, run_underlying hel, sizeOf, typeInfo, h2, newRow, Instr.fill, Array.range_zero']
        have hrun' := if hn : n = 0 then hrun0 hn else hrun hn
        have hb : Bel X.M X.w0 (w.alloc (.cells r.flatten.toArray E)) := h.below.alloc _
        have hrl := repL_length (fun c x h => t.rep_length h) g5
        have hn63 : n ≤ maxLen := by
          have hm : maxLen = 9223372036854775807 := rfl
          have : n * 1 ≤ n * t.w := Nat.mul_le_mul_left _ hc.2
          have := hc.1
          omega
        refine wp_of_value (by unfold execOp; rw [hop]; exact run_value hrun') ?_
        rw [hd]
        split at he
        · cases he
          refine hK _ _ ?_
          obtain ⟨ρ', q1, q2⟩ := g1.fresh (Nat.lt_of_lt_of_le (Tab.ok_lt hdN) h.small.n) (w' := w.alloc (.cells r.flatten.toArray E)) (d := d) (obj := .arr t E xs) (val := .slice (some ⟨w.heap.size, 0, none⟩) n n) (fun k hk => alloc_keep _ _ k hk) (fun b hb => by simp [Blk] at hb; exact hb.symm)
            (fun H' ρ' hh hs hρ hρd => by
              refine ⟨r.flatten, repL_move hh hs g5, hrl, .inr ⟨w.heap.size, n, r.flatten.toArray, ?_, Cx.M_new h.below, heap_alloc_new _ _, by rw [g2]; exact Nat.le_refl _, hn63, by simpa [g2] using hrl, ?_⟩⟩
              · rw [hρd, g2]
              · rw [← hrl, List.toList_toArray, List.take_length])
          have q3 := q2.put (d := d) (by rw [h.size]; exact Tab.ok_lt hdN) (v := .l (.ownS d)) (val := .slice (some ⟨w.heap.size, 0, none⟩) n n) ⟨q1.symm, _, _, _, rfl⟩
          exact h.next hdN (KeepsOthers.alloc _ _) hb q3
        · cases he
          refine hK _ _ ?_
          have hH : ¬ hot X.O ρ s1.own w.heap.size := fun hh => Nat.lt_irrefl _ (g1.hot_lt h.others h.below hh)
          have q2 := g1.keep (w' := w.alloc (.cells r.flatten.toArray E)) (fun k hk => alloc_keep _ _ k hk)
          have hs : Stays (hot X.O ρ s1.own) w (w.alloc (.cells r.flatten.toArray E)) := fun b _ hb => alloc_keep _ _ b (cells_lt hb)
          have q3 := q2.put (d := d) (by rw [h.size]; exact Tab.ok_lt hdN) (v := .l (.z (.slice t) xs)) (val := .slice (some ⟨w.heap.size, 0, none⟩) n n) (by
            refine ⟨rfl, .inr ⟨w.heap.size, 0, none, n, r.flatten, ?_, fun _ => rfl, by rw [g2]; exact Nat.le_refl _, hn63, repL_move (fun _ _ h => h) hs g5, fun _ => hH, fun j hj => ?_⟩⟩
            · show [_] = [_]; rw [g2]
            · rw [Nat.zero_add, cell_of_row _ _ j r.flatten.toArray E (0, 0) (heap_alloc_new w _)]; simp)
          exact h.next hdN (KeepsOthers.alloc _ _) hb q3
      · cases he
    · cases he
  · cases he

theorem roomy_fits {w n : Nat} (h : Roomy w n) (hw : 0 < w) : n ≤ maxLen ∧ n * (24 * w) ≤ 70368744177664 := by
  refine ⟨?_, h⟩
  have hm : maxLen = 9223372036854775807 := rfl
  unfold Roomy at h
  have : n * 1 ≤ n * (24 * w) := Nat.mul_le_mul_left _ (by omega)
  omega

theorem madeCells_eq {t : Ty} (ht : t.isAgg = false → t.w = 1) (hw : 0 < t.w) (n : Nat) : madeCells (mkV t.isAgg t.zeroCells).cells (n * t.w) = (List.replicate n t.zeroCells).flatten.toArray := by
  rw [← range_zero' n ht hw]; rfl

theorem effOp_makeSlice {X : Cx} (hT : TabOK X.P X.T) {s s' : AState} {a : Act} {w : World} (h : St X s a w) {o : Oper} {d : Nat} {e : TypeId} {l c : Operand} (hop : o.op = .makeSlice e l c) (hd : o.dst = some d) (hdN : X.T.ok d = true) {C : Prop} (he : effOp X.T s (some d) (.makeSlice e l c) = some (C, s')) (hC : C)
    {K : Act → World → Prop} {Q : Exit → Act → World → Prop} (hK : ∀ a' w', St X s' a' w' → K a' w') : o.wpIn (fw X.r) 2 X.P a w K Q := by
  simp only [effOp] at he
  obtain ⟨ρ, hf⟩ := h.fits
  split at he
  · rename_i d' t E k1 l1 k2 c1 hdd ht hE hl hc
    cases hdd
    split at he
    · rename_i x hx
      split at he
      · rename_i hw
        split at he
        · split at he
          · rename_i u E' _ hE' _
            cases he
            obtain ⟨ln, hln⟩ : ∃ ln : Int, ln = l1 := ⟨_, rfl⟩
            subst hln
            obtain ⟨cn, hcn⟩ : ∃ cn : Int, cn = c1 := ⟨_, rfl⟩
            subst hcn
            have c0 : 0 ≤ ln := hC.1
            have c2 : ln ≤ cn := hC.2.1
            have c3 : Roomy 1 cn.toNat := hC.2.2
            have hty := hT.types _ _ ht
            have hel := hT.elems _ _ hE
            obtain ⟨i, dd, hi, hu, hsz, hrow, hz, el, j, rfl, h2, h3, h4, h5, h6⟩ := hty
            have hEe : E = el := by rw [hel] at hu; cases hu; rfl
            subst hEe
            obtain ⟨r1, r2⟩ := roomy_fits c3 (by omega)
            have hm : maxLen = 9223372036854775807 := rfl
            have hbytes : (j.bytes : Int) * cn ≤ 281474976710656 := by
              have : j.bytes * cn.toNat ≤ 24 * 1 * cn.toNat := Nat.mul_le_mul_right _ h4
              rw [Nat.mul_comm (24 * 1)] at this
              have h7 : ((j.bytes * cn.toNat : Nat) : Int) ≤ 281474976710656 := by omega
              rw [Int.natCast_mul, Int.toNat_of_nonneg (by omega)] at h7
              exact h7
            have hrun := run_make (P := X.P) w e E j _ hel h2 h5 k1 k2 ln cn c0 c2 hbytes (by omega)
            rw [h3, madeCells_eq h6 hw] at hrun
            refine wp_of_value (by unfold execOp; rw [hop]; simp only [int_val (leaf_ok hf hl), int_val (leaf_ok hf hc)]; exact run_value hrun) (hK _ _ ?_)
            rw [hd]
            have hz1 : (List.replicate ln.toNat (Ty.slice u).zeroCells).flatten = List.replicate ln.toNat (.slice none 0 0) := by
              simp [Ty.zeroCells, List.flatten_replicate_singleton]
            obtain ⟨ρ', q1, q2⟩ := hf.fresh (Nat.lt_of_lt_of_le (Tab.ok_lt hdN) h.small.n) (w' := w.alloc (.cells (List.replicate cn.toNat (Ty.slice u).zeroCells).flatten.toArray E)) (d := d) (obj := .mat u E E' (List.replicate ln.toNat (some [])) ((List.range ln.toNat).map some)) (val := .tuple ⟨.slice (some ⟨w.heap.size, 0, none⟩) ln.toNat cn.toNat :: List.replicate ln.toNat (.slice none 0 0)⟩) (fun k hk => alloc_keep _ _ k hk) (fun b hb => by
                obtain ⟨v, hv, hb⟩ := hb
                rcases List.mem_cons.1 hv with rfl | hv
                · simp [blk] at hb; exact hb.symm
                · rw [(List.mem_replicate.1 hv).2] at hb; simp [blk] at hb)
              (fun H' ρ' hh hs hρ hρd => by
                refine ⟨_, _, List.replicate ln.toNat (.slice none 0 0), hρd, ⟨by simp, ⟨by simp, .inr ⟨w.heap.size, cn.toNat, _, by simp, Cx.M_new h.below, heap_alloc_new _ _, by simp; omega, r1, by simp [Ty.zeroCells, Ty.w], ?_⟩⟩, fun c hc => by rw [(List.mem_replicate.1 hc).2]; rfl, fun i k hik => ?_, fun v hv => ?_, fun k xs v hx hv => ?_, fun i k xs ys u v _ _ _ hu _ b hb => ?_⟩⟩
                · have : cn.toNat = ln.toNat + (cn.toNat - ln.toNat) := by omega
                  rw [this, ← List.replicate_append_replicate, List.flatten_append, hz1]
                  simp
                · simp only [List.getElem?_map] at hik
                  have hil : i < ln.toNat := by
                    rcases Nat.lt_or_ge i ln.toNat with h8 | h8
                    · exact h8
                    · rw [List.getElem?_eq_none (by rw [List.length_range]; exact h8)] at hik; simp at hik
                  rw [List.getElem?_range hil] at hik
                  simp at hik; subst hik
                  exact ⟨by simpa using hil, rfl⟩
                · rw [(List.mem_replicate.1 hv).2]
                  exact ⟨⟨none, 0, 0, rfl⟩, fun b hb => by simp [blk] at hb⟩
                · have hx' := (List.mem_replicate.1 (List.mem_of_getElem? hx)).2
                  have hv' := (List.mem_replicate.1 (List.mem_of_getElem? hv)).2
                  cases hx'; subst hv'
                  exact ⟨[], rfl, rowAt_nil _ _ _ _⟩
                · have hu' := (List.mem_replicate.1 (List.mem_of_getElem? hu)).2
                  subst hu'
                  simp [blk] at hb)
            have q3 := q2.put (d := d) (by rw [h.size]; exact Tab.ok_lt hdN) (v := .l (.ownM d)) (val := .slice (some ⟨w.heap.size, 0, none⟩) ln.toNat cn.toNat) ⟨_, _, _, _, q1, rfl⟩
            exact h.next hdN (KeepsOthers.alloc _ _) (h.below.alloc _) q3
          · cases he
        cases he
        obtain ⟨ln, hln⟩ : ∃ ln : Int, ln = l1 := ⟨_, rfl⟩
        subst hln
        obtain ⟨cn, hcn⟩ : ∃ cn : Int, cn = c1 := ⟨_, rfl⟩
        subst hcn
        have c0 : 0 ≤ ln := hC.1
        have c2 : ln ≤ cn := hC.2.1
        have c3 : Roomy t.w cn.toNat := hC.2.2
        have hty := hT.types _ _ ht
        have hel := hT.elems _ _ hE
        obtain ⟨i, dd, hi, hu, hsz, hrow, hz, el, j, rfl, h2, h3, h4, h5, h6⟩ := hty
        have hEe : E = el := by rw [hel] at hu; cases hu; rfl
        subst hEe
        obtain ⟨r1, r2⟩ := roomy_fits c3 hw
        have hm : maxLen = 9223372036854775807 := rfl
        have hbytes : (j.bytes : Int) * cn ≤ 281474976710656 := by
          have : j.bytes * cn.toNat ≤ 24 * t.w * cn.toNat := Nat.mul_le_mul_right _ h4
          rw [Nat.mul_comm (24 * t.w)] at this
          have h7 : ((j.bytes * cn.toNat : Nat) : Int) ≤ 281474976710656 := by omega
          rw [Int.natCast_mul, Int.toNat_of_nonneg (by omega)] at h7
          exact h7
        have hrun := run_make (P := X.P) w e E j _ hel h2 h5 k1 k2 ln cn c0 c2 hbytes (by omega)
        rw [h3, madeCells_eq h6 hw] at hrun
        have hb : Bel X.M X.w0 (w.alloc (.cells (List.replicate cn.toNat t.zeroCells).flatten.toArray E)) := h.below.alloc _
        refine wp_of_value (by unfold execOp; rw [hop]; simp only [int_val (leaf_ok hf hl), int_val (leaf_ok hf hc)]; exact run_value hrun) (hK _ _ ?_)
        rw [hd]
        have hrep : ∀ H' w', repL (fun c x => t.rep H' w' c x) (List.replicate ln.toNat t.zeroCells).flatten (List.replicate ln.toNat x) := fun H' w' => repL_replicate (t.rep_zero H' w' hx) _
        obtain ⟨ρ', q1, q2⟩ := hf.fresh (Nat.lt_of_lt_of_le (Tab.ok_lt hdN) h.small.n) (w' := w.alloc (.cells (List.replicate cn.toNat t.zeroCells).flatten.toArray E)) (d := d) (obj := .arr t E (List.replicate ln.toNat x)) (val := .slice (some ⟨w.heap.size, 0, none⟩) ln.toNat cn.toNat) (fun k hk => alloc_keep _ _ k hk) (fun b hb => by simp [Blk] at hb; exact hb.symm)
          (fun H' ρ' hh hs hρ hρd => by
            refine ⟨(List.replicate ln.toNat t.zeroCells).flatten, hrep _ _, by simp [t.zeroCells_length], .inr ⟨w.heap.size, cn.toNat, _, ?_, Cx.M_new h.below, heap_alloc_new _ _, by simp; omega, r1, by simp [t.zeroCells_length], ?_⟩⟩
            · rw [hρd]; simp
            · have : cn.toNat = ln.toNat + (cn.toNat - ln.toNat) := by omega
              rw [this, ← List.replicate_append_replicate, List.flatten_append]
              have hlen : (List.replicate ln.toNat x).length * t.w = (List.replicate ln.toNat t.zeroCells).flatten.length := by simp [t.zeroCells_length]
              rw [hlen]
              simp)
        have q3 := q2.put (d := d) (by rw [h.size]; exact Tab.ok_lt hdN) (v := .l (.ownS d)) (val := .slice (some ⟨w.heap.size, 0, none⟩) ln.toNat cn.toNat) ⟨q1.symm, _, _, _, rfl⟩
        exact h.next hdN (KeepsOthers.alloc _ _) hb q3
      · cases he
    · cases he
  · cases he

theorem take_splice {α : Type} (C N : List α) (p q L : Nat) (h : p + N.length = q) (hq : q ≤ L) (hL : L ≤ C.length) : (C.take p ++ (N ++ C.drop q)).take L = (C.take L).take p ++ (N ++ (C.take L).drop q) := by
  have a1 : (C.take p).length = p := by simp only [List.length_take]; omega
  rw [List.take_append, a1, List.take_of_length_le (by omega), List.take_append, List.take_of_length_le (by omega : N.length ≤ L - p), List.take_take, Nat.min_eq_left (by omega), List.drop_take]
  congr 3; omega

/-- Cells of a row, after some of them were written. -/
theorem setCells_row {w : World} {b T : Nat} {vs : List Value} {off : Nat} {new : List Value} (hh : w.heap[b]? = some (.cells vs.toArray T (0, 0))) (hle : off + new.length ≤ vs.length) :
    (w.setCells b off new).heap[b]? = some (.cells (vs.take off ++ (new ++ vs.drop (off + new.length))).toArray T (0, 0)) := by
  induction new generalizing w vs off with
  | nil => simpa [World.setCells] using hh
  | cons v new ih =>
    simp only [List.length_cons] at hle
    have h1 := heap_setCell_same w b off vs.toArray T v hh
    have hset : vs.toArray.setIfInBounds off v = (vs.set off v).toArray := by apply Array.ext'; simp
    rw [hset] at h1
    have := ih (w := w.setCell ⟨b, off, none⟩ v) (off := off + 1) h1 (by simp; omega)
    simp only [World.setCells]
    rw [this]
    congr 2
    have hlt : off < vs.length := by omega
    apply Array.ext'
    simp only [List.length_cons]
    rw [List.set_eq_take_append_cons_drop, if_pos hlt]
    have e1 : (vs.take off ++ v :: vs.drop (off + 1)).take (off + 1) = vs.take off ++ [v] := by
      have hA : (vs.take off).length = off := by simp; omega
      rw [List.take_append, hA, List.take_of_length_le (by omega), show off + 1 - off = 1 by omega, List.take_succ_cons, List.take_zero]
    have e2 : (vs.take off ++ v :: vs.drop (off + 1)).drop (off + 1 + new.length) = vs.drop (off + (new.length + 1)) := by
      rw [List.drop_append]
      have : (vs.take off).length = off := by simp; omega
      rw [this, List.drop_eq_nil_of_le (by omega)]
      have e3 : off + 1 + new.length - off = new.length + 1 := by omega
      rw [e3, List.drop_succ_cons, List.drop_drop, List.nil_append]
      congr 1; omega
    rw [e1, e2]; simp

theorem setCells_other {b : Nat} : ∀ (new : List Value) (off : Nat) (w : World) (k : Nat), k ≠ b → (w.setCells b off new).heap[k]? = w.heap[k]?
  | [], _, _, _, _ => rfl
  | v :: new, off, w, k, h => by
    simp only [World.setCells]
    rw [setCells_other new (off + 1) _ k h, heap_setCell_other w ⟨b, off, none⟩ k v h]

theorem setCells_size {b : Nat} : ∀ (new : List Value) (off : Nat) (w : World), (w.setCells b off new).heap.size = w.heap.size
  | [], _, _ => rfl
  | v :: new, off, w => by
    simp only [World.setCells]
    rw [setCells_size new (off + 1) _]; simp [World.setCell]

theorem keeps_setCells {b : Nat} : ∀ (new : List Value) (off : Nat) (w : World), KeepsOthers w (w.setCells b off new)
  | [], _, w => KeepsOthers.refl w
  | v :: new, off, w => (KeepsOthers.setCell w ⟨b, off, none⟩ v).trans (keeps_setCells new (off + 1) _)

theorem Bel.setCells {M : Nat → Prop} {a : World} {b : Nat} (hB : M b) : ∀ (new : List Value) (off : Nat) {w : World}, Bel M a w → Bel M a (w.setCells b off new)
  | [], _, _, h => h
  | v :: new, off, w, h => by
    simp only [World.setCells]
    exact Bel.setCells hB new (off + 1) (h.setCell (p := ⟨b, off, none⟩) hB v)

/-- A value goes into cells of a row of the call's own. -/
theorem run_storeAt {P : Program} {T : TypeId} {t : Ty} (ht : TyOK P T t) {w : World} {b o e : Nat} {vs : List Value} {v : Value} (hh : w.heap[b]? = some (.cells vs.toArray e (0, 0))) (hl : v.cells.toList.length = t.w) (h1 : ∀ c ∈ v.cells.toList, c.oneCell' = true) (hle : o + t.w ≤ vs.length) :
    (Instr.storeAt T (.pointer (some ⟨b, o, none⟩)) v).run P w = .ok () (w.setCells b o v.cells.toList) := by
  obtain ⟨i, d, hi, hu, hsz, hrow, hz, _⟩ := ht
  have hth : w.there b o v.cells.size := by
    intro j hj
    have hj' : o + j < vs.length := by
      have : v.cells.size = t.w := by rw [← hl]; simp
      omega
    refine ⟨?_, frozen_of_row w b _ _ e hh⟩
    rw [cell_of_row w b _ vs.toArray e (0, 0) hh]
    simp [hj']
  have hsize : v.cells.size = i.size := by rw [hsz, ← hl]; simp
  have hst := run_storeCells_cells (P := P) b o v.cells.toList 0 w (fun j hj => by simpa using (hth j (by simpa using hj)).1) (fun j hj => by simpa using (hth j (by simpa using hj)).2) h1
  simp only [Nat.add_zero] at hst
  simp [Instr.storeAt, Instr.sureAddr, storeVar, sizeOf, typeInfo, hi, hsize, hst]

theorem Blk_slice {v : Value} {a : Option Addr} {n c : Nat} (h : v = .slice a n c) {b : Nat} : Blk v b ↔ blk v = some b := by
  subst h; cases a <;> simp [Blk, blk]

theorem rowAt_write {M : Nat → Prop} {w : World} {e : TypeId} {size n m c g : Nat} {v : Value} {xs : List Value} (h : rowAt M w e size v n xs) (hv : v = .slice (some ⟨g, 0, none⟩) m c) {k : Nat} (hk : k < n) {new : List Value} (hn : new.length = size) :
    M g ∧ (∃ vs : List Value, w.heap[g]? = some (.cells vs.toArray e (0, 0)) ∧ k * size + size ≤ vs.length) ∧
    rowAt M (w.setCells g (k * size) new) e size v n (xs.take (k * size) ++ (new ++ xs.drop ((k + 1) * size))) := by
  obtain ⟨hl, ⟨h0, h1⟩ | ⟨g', cap, cur, h0, hM, hh, h1, h2, h3, h4⟩⟩ := h
  · omega
  · rw [hv] at h0; simp at h0; obtain ⟨rfl, rfl, rfl⟩ := h0
    have hcur : cur.toList.toArray = cur := by simp
    have hh' : w.heap[g]? = some (.cells cur.toList.toArray e (0, 0)) := by rw [hcur]; exact hh
    have hcl : cur.toList.length = c * size := by simp [h3]
    have hle : k * size + size ≤ cur.toList.length := by
      have : (k + 1) * size ≤ c * size := Nat.mul_le_mul_right _ (by omega)
      rw [Nat.succ_mul] at this; omega
    have hsplit : k * size + size ≤ m * size := by
      have : (k + 1) * size ≤ m * size := Nat.mul_le_mul_right _ hk
      rw [Nat.succ_mul] at this; exact this
    refine ⟨hM, ⟨_, hh', hle⟩, ?_, .inr ⟨g, c, _, hv, hM, setCells_row hh' (by rw [hn]; exact hle), h1, h2, ?_, ?_⟩⟩
    · simp only [List.length_append, List.length_take, List.length_drop, hn, hl, Nat.succ_mul]; omega
    · simp only [List.size_toArray, List.length_append, List.length_take, List.length_drop, hn]; omega
    · rw [← h4, Nat.succ_mul, hn]
      exact take_splice _ _ _ _ _ (by rw [hn]) hsplit (by rw [hcl]; exact Nat.mul_le_mul_right _ h1)

theorem mapEnv_id (l : List (Nat × AV)) : mapEnv _root_.id l = l := by
  induction l with
  | nil => rfl
  | cons p l ih => obtain ⟨k, v⟩ := p; simp only [mapEnv, ih]; cases v <;> simp [AV.map]

theorem mapOwn_id (l : List (Nat × OObj)) : mapOwn _root_.id l = l := by
  induction l with
  | nil => rfl
  | cons p l ih => obtain ⟨k, v⟩ := p; simp only [mapOwn, ih]; cases v <;> simp [OObj.map]

theorem effOp_store {X : Cx} (hT : TabOK X.P X.T) {s s' : AState} {a : Act} {w : World} (h : St X s a w) {o : Oper} {t : TypeId} {x y : Operand} (hop : o.op = .store t x y) (hd : o.dst = none) {C : Prop} (he : effOp X.T s none (.store t x y) = some (C, s')) (hC : C)
    {K : Act → World → Prop} {Q : Exit → Act → World → Prop} (hK : ∀ a' w', St X s' a' w' → K a' w') : o.wpIn (fw X.r) 2 X.P a w K Q := by
  simp only [effOp] at he
  rw [if_neg (by simp)] at he
  obtain ⟨ρ, hf⟩ := h.fits
  split at he
  · rename_i id off u hx ht
    split at he
    · rename_i e cs v hg hv
      split at he
      · rename_i new hnew
        split at he
        · rename_i hc
          cases he
          obtain ⟨b, hb, hva⟩ := leaf_ok hf hx
          obtain ⟨b', vs, hb', hbase, hh, hcs⟩ := hf.own _ (get?_mem hg)
          rw [hb] at hb'; simp at hb'; subst hb'
          have hok := AV.cells_ok hnew (opnd_ok hf hv)
          have hlen := hok.length
          have hcl := hcs.length
          have h1 : ∀ c ∈ (a.eval y).cells.toList, c.oneCell' = true := by
            have key : ∀ {cs : List LV} {vs : List Value}, All2 (RepC (hot X.O ρ s.own) w ρ) cs vs → ∀ c ∈ vs, c.oneCell' = true := by
              intro cs
              induction cs with
              | nil => intro vs h; cases vs with
                | nil => simp
                | cons _ _ => exact h.elim
              | cons x cs ih => intro vs h; cases vs with
                | nil => exact h.elim
                | cons v vs =>
                  intro c hc
                  rcases List.mem_cons.1 hc with rfl | hc
                  · exact h.1.2
                  · exact ih h.2 c hc
            exact key hok
          have hrun := run_storeAt (hT.types _ _ ht) (o := off) hh (v := a.eval y) (by rw [← hlen]; exact hc.1) h1 (by omega)
          refine wp_of_skip (w' := w.setCells b off (a.eval y).cells.toList) (by unfold execOp; rw [hop]; simp only [hva, Sem.run_bind, hrun, Result.andThen_ok]; rfl) (hK _ _ ?_)
          rw [hd]
          obtain ⟨ρ', q1, q2⟩ := hf.renew (w' := w.setCells b off (a.eval y).cells.toList) hg (f := _root_.id) (val := ρ id) (obj' := .box e (cs.take off ++ (new ++ cs.drop (off + u.w))))
            (fun H' ρ' hh hs hρ hρd x v hx => RepL_move hh hs (fun i _ => by
              by_cases hi : i = id
              · rw [hi]; exact hρd
              · exact hρ i hi) hx)
            (fun k hk hne => setCells_other _ _ _ _ (fun e => hne (by rw [hb, e]; rfl)))
            (fun b hb => .inl hb)
            (fun H' ρ' hh' hs hρ hρd => by
              have hmv : ∀ {cs : List LV} {vs : List Value}, All2 (RepC (hot X.O ρ s.own) w ρ) cs vs → All2 (RepC H' (w.setCells b off (a.eval y).cells.toList) ρ') cs vs := fun h => h.imp (fun c v _ hr => ⟨RepL_move hh' hs (fun i _ => by
                by_cases hi : i = id
                · rw [hi]; exact hρd
                · exact hρ i hi) hr.1, hr.2⟩)
              refine ⟨b, vs.take off ++ ((a.eval y).cells.toList ++ vs.drop (off + (a.eval y).cells.toList.length)), by rw [hρd]; exact hb, hbase, setCells_row hh (by omega), ?_⟩
              rw [← hlen, hc.1]
              exact (hmv (hcs.take off)).append ((hmv hok).append (hmv (hcs.drop (off + u.w)))))
            (fun _ _ => rfl)
          have e1 : mapEnv _root_.id s.env = s.env := by
            have : ∀ l : List (Nat × AV), mapEnv _root_.id l = l := by
              intro l
              induction l with
              | nil => rfl
              | cons p l ih => obtain ⟨k, v⟩ := p; simp only [mapEnv, ih]; cases v <;> simp [AV.map]
            exact this _
          have e2 : mapOwn _root_.id s.own = s.own := by
            have : ∀ l : List (Nat × OObj), mapOwn _root_.id l = l := by
              intro l
              induction l with
              | nil => rfl
              | cons p l ih => obtain ⟨k, v⟩ := p; simp only [mapOwn, ih]; cases v <;> simp [OObj.map]
            exact this _
          rw [e1, e2] at q2
          exact h.next0 (keeps_setCells _ _ _) (Bel.setCells hbase _ _ h.below) q2
        · cases he
      · cases he
    · cases he
  · rename_i id wd i u hx ht
    split at he
    · rename_i y' s1 hy
      split at he
      · rename_i t' e xs hg
        split at he
        · rename_i hut
          subst hut
          split at he
          · rename_i hwd
            subst hwd
            cases he
            obtain ⟨g1, g2⟩ := pureArg_ok hf h.others hy
            obtain ⟨b, o', n, c, hb, hva⟩ := leaf_ok hf hx
            obtain ⟨hn, cells, hr, hl, hor⟩ := own_val g1.own hg hb
            rcases hor with ⟨hno, _⟩ | ⟨g, hg', hbase, h1, h2, cur, hh, h3, h4⟩
            · cases hno
            · simp at hg'; obtain ⟨rfl, rfl⟩ := hg'
              rw [Nat.zero_add] at hva
              subst hn
              have hlen := u.rep_length g2.2
              have hcur : cur.toList.toArray = cur := by simp
              have hh' : w.heap[b]? = some (.cells cur.toList.toArray e (0, 0)) := by rw [hcur]; exact hh
              have hle : i * u.w + u.w ≤ cur.toList.length := by
                have : (i + 1) * u.w ≤ c * u.w := Nat.mul_le_mul_right _ (Nat.le_trans hC h1)
                rw [Nat.succ_mul] at this
                simp; omega
              have hrun := run_storeAt (hT.types _ _ ht) (o := i * u.w) hh' (v := a.eval y) hlen (u.rep_oneCell g2.2) hle
              refine wp_of_skip (w' := w.setCells b (i * u.w) (a.eval y).cells.toList) (by unfold execOp; rw [hop]; simp only [hva, Sem.run_bind, hrun, Result.andThen_ok]; rfl) (hK _ _ ?_)
              rw [hd]
              obtain ⟨ρ', q1, q2⟩ := g1.renew (w' := w.setCells b (i * u.w) (a.eval y).cells.toList) hg (f := _root_.id) (val := ρ id) (obj' := .arr u e (xs.set i y'))
                (fun H' ρ' hh hs hρ hρd x v hx => RepL_move hh hs (fun i _ => by
                  by_cases hi : i = id
                  · rw [hi]; exact hρd
                  · exact hρ i hi) hx)
                (fun k hk hne => setCells_other _ _ _ _ (fun e => hne (by rw [hb, e]; rfl)))
                (fun b hb => .inl hb)
                (fun H' ρ' hh'' hs hρ hρd => by
                  have hel := (RepL_move (ρ' := ρ) (x := .z u y') hh'' hs (fun _ _ => rfl) g2).2
                  have hset := repL_set (fun c x h => u.rep_length h) (repL_move hh'' hs hr) i hC hel
                  have hrow := setCells_row hh' (new := (a.eval y).cells.toList) (off := i * u.w) (by rw [hlen]; exact hle)
                  refine ⟨_, hset, ?_, .inr ⟨b, c, _, by rw [hρd, hb]; simp, hbase, hrow, by simpa using h1, h2, ?_, ?_⟩⟩
                  · have := repL_length (fun c x h => u.rep_length h) hset
                    exact this
                  · simp only [List.size_toArray, List.length_append, List.length_take, List.length_drop, hlen]
                    have : cur.toList.length = c * u.w := by simp [h3]
                    omega
                  · simp only [List.length_set, hlen]
                    have hsplit : i * u.w + u.w ≤ xs.length * u.w := by
                      have : (i + 1) * u.w ≤ xs.length * u.w := Nat.mul_le_mul_right _ hC
                      rw [Nat.succ_mul] at this; exact this
                    rw [← h4, Nat.succ_mul]
                    refine take_splice _ _ _ _ _ (by rw [hlen]) hsplit ?_
                    have : cur.toList.length = c * u.w := by simp [h3]
                    rw [this]; exact Nat.mul_le_mul_right _ h1)
                (fun _ _ => rfl)
              have e1 : mapEnv _root_.id s1.env = s1.env := by
                have : ∀ l : List (Nat × AV), mapEnv _root_.id l = l := by
                  intro l
                  induction l with
                  | nil => rfl
                  | cons p l ih => obtain ⟨k, v⟩ := p; simp only [mapEnv, ih]; cases v <;> simp [AV.map]
                exact this _
              have e2 : mapOwn _root_.id s1.own = s1.own := by
                have : ∀ l : List (Nat × OObj), mapOwn _root_.id l = l := by
                  intro l
                  induction l with
                  | nil => rfl
                  | cons p l ih => obtain ⟨k, v⟩ := p; simp only [mapOwn, ih]; cases v <;> simp [OObj.map]
                exact this _
              rw [e1, e2] at q2
              exact h.next0 (keeps_setCells _ _ _) (Bel.setCells hbase _ _ h.below) q2
          · cases he
        · cases he
      · rename_i t' e pre xs post hg
        split at he
        · rename_i hut
          subst hut
          split at he
          · rename_i hwd
            subst hwd
            cases he
            obtain ⟨g1, g2⟩ := pureArg_ok hf h.others hy
            obtain ⟨b, o', n, c, hb, hva⟩ := leaf_ok hf hx
            obtain ⟨hn, ho, hbase, cells, hr, hl, h1, h2, h2', h2'', cur, hh, h3, h4⟩ := win_val g1.own hg hb
            subst hn; subst ho
            have e0 : pre.length * u.w + i * u.w = (pre.length + i) * u.w := (Nat.add_mul ..).symm
            rw [e0] at hva
            have hlen := u.rep_length g2.2
            have hcur : cur.toList.toArray = cur := by simp
            have hh' : w.heap[b]? = some (.cells cur.toList.toArray e (0, 0)) := by rw [hcur]; exact hh
            have hcl : cur.toList.length = (pre.length + c) * u.w := by simp [h3]
            have hle : (pre.length + i) * u.w + u.w ≤ cur.toList.length := by
              have : (pre.length + i + 1) * u.w ≤ (pre.length + c) * u.w := Nat.mul_le_mul_right _ (by omega)
              rw [Nat.succ_mul] at this
              omega
            have hrun := run_storeAt (hT.types _ _ ht) (o := (pre.length + i) * u.w) hh' (v := a.eval y) hlen (u.rep_oneCell g2.2) hle
            refine wp_of_skip (w' := w.setCells b ((pre.length + i) * u.w) (a.eval y).cells.toList) (by unfold execOp; rw [hop]; simp only [hva, Sem.run_bind, hrun, Result.andThen_ok]; rfl) (hK _ _ ?_)
            rw [hd]
            have hi : pre.length + i < (pre ++ (xs ++ post)).length := by simp; omega
            have hsetl : (pre ++ (xs ++ post)).set (pre.length + i) y' = pre ++ (xs.set i y' ++ post) := by
              rw [List.set_append_right _ _ (Nat.le_add_right _ _), Nat.add_sub_cancel_left, List.set_append_left _ _ hC]
            obtain ⟨ρ', q1, q2⟩ := g1.renew (w' := w.setCells b ((pre.length + i) * u.w) (a.eval y).cells.toList) hg (f := _root_.id) (val := ρ id) (obj' := .win u e pre (xs.set i y') post)
              (fun H' ρ' hh hs hρ hρd x v hx => RepL_move hh hs (fun i _ => by
                by_cases hi : i = id
                · rw [hi]; exact hρd
                · exact hρ i hi) hx)
              (fun k hk hne => setCells_other _ _ _ _ (fun e => hne (by rw [hb, e]; rfl)))
              (fun b hb => .inl hb)
              (fun H' ρ' hh'' hs hρ hρd => by
                have hel := (RepL_move (ρ' := ρ) (x := .z u y') hh'' hs (fun _ _ => rfl) g2).2
                have hset := repL_set (fun c x h => u.rep_length h) (repL_move hh'' hs hr) (pre.length + i) hi hel
                rw [hsetl] at hset
                have hrow := setCells_row hh' (new := (a.eval y).cells.toList) (off := (pre.length + i) * u.w) (by rw [hlen]; exact hle)
                refine ⟨b, c, _, _, hset, by rw [hρd, hb]; simp, hbase, hrow, by simpa using h1, h2, h2', ?_, by simpa using h2'', ?_⟩
                · simp only [List.size_toArray, List.length_append, List.length_take, List.length_drop, hlen]
                  omega
                · simp only [List.length_set, List.length_append, hlen]
                  have hsplit : (pre.length + i) * u.w + u.w ≤ (pre.length + (xs.length + post.length)) * u.w := by
                    have : (pre.length + i + 1) * u.w ≤ (pre.length + (xs.length + post.length)) * u.w := Nat.mul_le_mul_right _ (by omega)
                    rw [Nat.succ_mul] at this; exact this
                  simp only [List.length_append] at h4
                  rw [← h4, Nat.succ_mul]
                  refine take_splice _ _ _ _ _ (by rw [hlen]) hsplit ?_
                  rw [hcl]; exact Nat.mul_le_mul_right _ (by omega))
              (fun _ _ => rfl)
            have e1 : mapEnv _root_.id s1.env = s1.env := by
              have : ∀ l : List (Nat × AV), mapEnv _root_.id l = l := by
                intro l
                induction l with
                | nil => rfl
                | cons p l ih => obtain ⟨k, v⟩ := p; simp only [mapEnv, ih]; cases v <;> simp [AV.map]
              exact this _
            have e2 : mapOwn _root_.id s1.own = s1.own := by
              have : ∀ l : List (Nat × OObj), mapOwn _root_.id l = l := by
                intro l
                induction l with
                | nil => rfl
                | cons p l ih => obtain ⟨k, v⟩ := p; simp only [mapOwn, ih]; cases v <;> simp [OObj.map]
              exact this _
            rw [e1, e2] at q2
            exact h.next0 (keeps_setCells _ _ _) (Bel.setCells hbase _ _ h.below) q2
          · cases he
        · cases he
      · cases he
    · cases he
  · rename_i id i u hx ht
    split at he
    · rename_i t' T' e rows idx id' j hg hy
      split at he
      · rename_i hc
        obtain ⟨rfl, rfl⟩ := hc
        cases he
        obtain ⟨hC1, hC2⟩ := hC
        obtain ⟨b, n, c, vs, hb, hva⟩ := leaf_ok hf hx
        have hy' : RepL (hot X.O ρ s.own) w ρ (.ownR id' j) (a.eval y) := opnd_ok hf hy
        obtain ⟨h0, vs', p, m, c', hb', hjv, hys⟩ := hy'
        rw [hb] at hb'
        simp only [Value.tuple.injEq, Array.mk.injEq, List.cons.injEq] at hb'
        obtain ⟨rfl, rfl⟩ := hb'
        obtain ⟨cells, hm⟩ := mat_val hf.own hg hb
        have h1 := hm.hdr
        have hl := hm.len
        have hn := rowAt_len h1 rfl
        subst hn
        have hone : (a.eval y).cells.toList = [a.eval y] := cells_one (isAggV_of_one (by rw [hys]; rfl))
        obtain ⟨hbase, ⟨cv, hh, hle⟩, hw1⟩ := rowAt_write h1 rfl hC1 (new := [a.eval y]) rfl
        rw [Nat.mul_one] at hle hw1
        have hrun := run_storeAt (hT.types _ _ ht) (o := i) hh (v := a.eval y) (by rw [hone]; rfl) (by rw [hone]; intro c hc; rw [List.mem_singleton.1 hc, hys]; rfl) (by simpa [Ty.w] using hle)
        rw [hone] at hrun
        refine wp_of_skip (w' := w.setCells b i [a.eval y]) (by unfold execOp; rw [hop]; simp only [hva, Sem.run_bind, hrun, Result.andThen_ok]; rfl) (hK _ _ ?_)
        rw [hd]
        obtain ⟨ρ', q1, q2⟩ := hf.renew (w' := w.setCells b i [a.eval y]) hg (f := _root_.id) (val := ρ id') (obj' := .mat u T' e rows (idx.set i (some j)))
          (fun H' ρ' hh hs hρ hρd x v hx => RepL_move hh hs (fun i _ => by
            by_cases hi : i = id'
            · rw [hi]; exact hρd
            · exact hρ i hi) hx)
          (fun k hk hne => setCells_other _ _ _ _ (fun e => hne (by rw [hb, e]; exact ⟨_, List.mem_cons_self .., rfl⟩)))
          (fun b hb => .inl hb)
          (fun H' ρ' hh'' hs hρ hρd => by
            have hcl := h1.1
            have hoth : ∀ v ∈ vs, ∀ b', blk v = some b' → (w.setCells b i [a.eval y]).heap[b']? = w.heap[b']? := fun v hv b' hb' => setCells_other _ _ _ _ fun e => by
              subst e
              exact ((hm.shape v hv).2 _ hb').1 rfl
            refine ⟨_, vs, _, by rw [hρd]; exact hb, ⟨hl, by rw [List.length_set]; exact hw1, fun c hc => ?_, fun k q hkq => ?_, fun v hv => ⟨(hm.shape v hv).1, fun b' hb' => ⟨((hm.shape v hv).2 b' hb').1, ((hm.shape v hv).2 b' hb').2.1, by rw [hoth v hv b' hb']; exact ((hm.shape v hv).2 b' hb').2.2⟩⟩, fun k xs v hx hv => ?_, hm.apart⟩⟩
            · rcases List.mem_append.1 hc with hc | hc
              · exact hm.one c (List.mem_of_mem_take hc)
              · rcases List.mem_append.1 hc with hc | hc
                · rw [List.mem_singleton.1 hc, hys]; rfl
                · exact hm.one c (List.mem_of_mem_drop hc)
            · have hset : cells.take i ++ ([a.eval y] ++ cells.drop ((i + 1) * 1)) = cells.set i (a.eval y) := by
                rw [List.set_eq_take_append_cons_drop, if_pos (by omega), Nat.mul_one]; rfl
              rw [hset]
              rw [List.getElem?_set] at hkq ⊢
              split at hkq
              · rename_i e; subst e
                simp at hkq; subst hkq
                rw [if_pos rfl, if_pos (by omega)]
                exact ⟨hC2, hjv.symm⟩
              · rename_i e; rw [if_neg e]; exact hm.at_ k q hkq
            · obtain ⟨cs, h6, h7⟩ := hm.row k xs v hx hv
              exact ⟨cs, repL_move hh'' hs h6, rowAt_keep h7 (hoth v (List.mem_of_getElem? hv))⟩)
          (fun _ _ => rfl)
        rw [mapEnv_id, mapOwn_id] at q2
        exact h.next0 (keeps_setCells _ _ _) (Bel.setCells hbase _ _ h.below) q2
      · cases he
    · cases he
  · rename_i id j wd k u hx ht
    split at he
    · rename_i y' s1 hy
      split at he
      · rename_i t' T' e rows idx hg
        split at he
        · rename_i hut
          subst hut
          split at he
          · rename_i hwd
            subst hwd
            cases he
            obtain ⟨hj, hk⟩ := hC
            obtain ⟨g1, g2⟩ := pureArg_ok hf h.others hy
            obtain ⟨h0, vs, b, n, c, hb, hjv, hva⟩ := leaf_ok hf hx
            obtain ⟨cells, hm⟩ := mat_val g1.own hg hb
            have hl := hm.len
            obtain ⟨hj1, hj2⟩ := live_some hj
            generalize rowOf rows j = xs at *
            obtain ⟨cs, hr, h6⟩ := hm.row j _ _ hj1 hjv
            have hlen := u.rep_length g2.2
            obtain ⟨hbase, ⟨cv, hh, hle⟩, hw1⟩ := rowAt_write h6 rfl hk (new := (a.eval y).cells.toList) hlen
            have hrun := run_storeAt (hT.types _ _ ht) (o := k * u.w) hh (v := a.eval y) hlen (u.rep_oneCell g2.2) hle
            refine wp_of_skip (w' := w.setCells b (k * u.w) (a.eval y).cells.toList) (by unfold execOp; rw [hop]; simp only [hva, Sem.run_bind, hrun, Result.andThen_ok]; rfl) (hK _ _ ?_)
            rw [hd]
            obtain ⟨ρ', q1, q2⟩ := g1.renew (w' := w.setCells b (k * u.w) (a.eval y).cells.toList) hg (f := _root_.id) (val := ρ id) (obj' := .mat u T' e (rows.set j (some (xs.set k y'))) idx)
              (fun H' ρ' hh hs hρ hρd x v hx => RepL_move hh hs (fun i _ => by
                by_cases hi : i = id
                · rw [hi]; exact hρd
                · exact hρ i hi) hx)
              (fun k hk hne => setCells_other _ _ _ _ (fun e => hne (by rw [hb, e]; exact ⟨_, List.mem_cons_of_mem _ (List.mem_of_getElem? hjv), rfl⟩)))
              (fun b hb => .inl hb)
              (fun H' ρ' hh'' hs hρ hρd => by
                have hel := (RepL_move (ρ' := ρ) (x := .z u y') hh'' hs (fun _ _ => rfl) g2).2
                have hmem := List.mem_of_getElem? hjv
                have hoth : ∀ b', b' ≠ b → (w.setCells b (k * u.w) (a.eval y).cells.toList).heap[b']? = w.heap[b']? := fun b' hb' => setCells_other _ _ _ _ hb'
                refine ⟨h0, vs, cells, by rw [hρd]; exact hb, ⟨by simpa using hl, rowAt_keep hm.hdr (fun b' hb' => hoth b' fun e => ?_), hm.one, fun i q hiq => by rw [List.length_set]; exact hm.at_ i q hiq, fun v hv => ⟨(hm.shape v hv).1, fun b' hb' => ⟨((hm.shape v hv).2 b' hb').1, ((hm.shape v hv).2 b' hb').2.1, ?_⟩⟩, fun q zs v hx hv => ?_, fun i q zs ys u' v hne hi1 hi2 hu hv => ?_⟩⟩
                · subst e
                  exact ((hm.shape _ hmem).2 b' rfl).1 hb'
                · by_cases e : b' = b
                  · subst e
                    exact ⟨_, setCells_row hh (by rw [hlen]; exact hle), rfl⟩
                  · rw [hoth b' e]; exact ((hm.shape v hv).2 b' hb').2.2
                · rw [List.getElem?_set] at hx
                  split at hx
                  · rename_i e; subst e
                    simp at hx; subst hx
                    rw [hjv] at hv; cases hv
                    refine ⟨_, repL_set (fun c x h => u.rep_length h) (repL_move hh'' hs hr) k hk hel, ?_⟩
                    simpa using hw1
                  · rename_i e
                    obtain ⟨cs', h7, h8⟩ := hm.row q zs v hx hv
                    refine ⟨cs', repL_move hh'' hs h7, rowAt_keep h8 (fun b' hb' => hoth b' fun e2 => ?_)⟩
                    subst e2
                    exact hm.apart q j zs xs v _ (fun e3 => e e3.symm) hx hj1 hv hjv b' hb' rfl
                · have hback : ∀ (i : Nat) (zs : List u.D), (rows.set j (some (xs.set k y')))[i]? = some (some zs) → ∃ zs' : List u.D, rows[i]? = some (some zs') := by
                    intro i zs hi
                    rw [List.getElem?_set] at hi
                    split at hi
                    · rename_i e; subst e; exact ⟨xs, hj1⟩
                    · exact ⟨zs, hi⟩
                  obtain ⟨z1, hz1⟩ := hback i zs hi1
                  obtain ⟨z2, hz2⟩ := hback q ys hi2
                  exact hm.apart i q z1 z2 u' v hne hz1 hz2 hu hv)
              (fun _ _ => rfl)
            rw [mapEnv_id, mapOwn_id] at q2
            exact h.next0 (keeps_setCells _ _ _) (Bel.setCells hbase _ _ h.below) q2
          · cases he
        · cases he
      · cases he
    · cases he
  · cases he

end Go.Cm
end

section
/- The machine is right: append; calls. -/
namespace Go.Cm
open Go.RowKit

theorem blk_ownBlock_slice {v : Value} {a : Option Addr} {n c : Nat} (h : v = .slice a n c) : blk v = v.ownBlock := by
  subst h; cases a <;> rfl

/-- append of what lies in memory (or of nil) to an array of the call's own. -/
theorem run_append {P : Program} {w : World} {M : Nat → Prop} {t ty e size : Nat} {i : TypeInfo} {z : Value} (ht : P.underlying t = some (.slice e)) (hi : P.info? e = some i) (hz : i.zero = some z) (hsize : i.size = size) (hzs : z.cells.size = size)
    {v : Value} {n : Nat} {xs : List Value} (hown : rowAt M w e size v n xs) (hncap : ∀ a l c, v = .slice a l c → l ≤ c)
    {y : Value} {m : Nat} {news : List Value} (hy : (y = .slice none 0 0 ∧ m = 0 ∧ news = []) ∨ ∃ ad c, y = .slice (some ad) m c ∧ (∀ j u, news[j]? = some u → w.cell? (ad.add j) = some u)) (hl : news.length = m * size) (h1 : ∀ u ∈ news, u.oneCell' = true)
    (h63 : n + m ≤ maxLen) (hbytes : (n + m) * i.bytes ≤ 140737488355328) (hbase : M w.heap.size) :
    ∃ v' w', (Builtin.append_ #[t, t] ty #[v, y]).run P w = .ok v' w' ∧ rowAt M w' e size v' (n + m) (xs ++ news) ∧ (∀ k, k < w.heap.size → ¬ (Blk v k ∧ Blk v' k) → w'.heap[k]? = w.heap[k]?) ∧ Bel M w w' ∧
      (∀ b, Blk v' b → Blk v b ∨ w.heap.size ≤ b) ∧ ∃ a l c, v' = .slice a l c := by
  have hsmall : n + m ≤ 9223372036854775807 := by simp only [maxLen] at h63; omega
  rcases hy with ⟨rfl, rfl, rfl⟩ | ⟨ad, c, rfl, hnews⟩
  · have hv : ∃ a c, v = .slice a n c := by
      rcases hown.2 with ⟨rfl, rfl⟩ | ⟨g, cap, cur, rfl, _⟩
      · exact ⟨_, _, rfl⟩
      · exact ⟨_, _, rfl⟩
    obtain ⟨a, c, rfl⟩ := hv
    have hnc := hncap _ _ _ rfl
    refine ⟨.slice a n c, w, ?_, by simpa using hown, fun _ _ _ => rfl, Bel.refl _ _, fun b hb => .inl hb, _, _, _, rfl⟩
    cases a with
    | none => simp [Builtin.append_, run_underlying ht, sizeOf, typeInfo, hi, Builtin.lenOf, hnc, Builtin.firstCells]
    | some a => simp [Builtin.append_, run_underlying ht, sizeOf, typeInfo, hi, Builtin.lenOf, hnc, Builtin.firstCells, storeCells]
  · obtain ⟨hlen, hor⟩ := hown
    have hxn : (xs ++ news).length = (n + m) * size := by rw [List.length_append, hlen, hl, Nat.add_mul]
    have grown : ∀ (old : Nat), old < n + m →
        rowAt M (w.drew.alloc (.cells (xs.toArray ++ news.toArray ++ Builtin.zeroCells z.cells (grownCap w (n + m) old e - (n + m))) e)) e size (.slice (some ⟨w.heap.size, 0, none⟩) (n + m) (grownCap w (n + m) old e)) (n + m) (xs ++ news) := by
      intro old ho
      have hge := grownCap_ge w (n + m) old e
      have hcm : grownCap w (n + m) old e ≤ maxLen := grownCap_le_maxLen w (n + m) old e h63
      refine ⟨hxn, .inr ⟨w.heap.size, _, _, rfl, hbase, heap_alloc_new w.drew _, hge, hcm, ?_, ?_⟩⟩
      · simp only [Array.size_append, List.size_toArray, size_zeroCells, hzs, hlen, hl, ← Nat.add_mul]
        congr 1; omega
      · simp only [Array.toList_append, List.append_assoc]
        rw [← List.append_assoc, ← hxn]
        exact List.take_left
    have hbelow : ∀ o, Bel M w (w.drew.alloc o) := fun o => ((Bel.refl M w).drew).alloc o
    rcases hor with ⟨rfl, rfl⟩ | ⟨g, cap, cur, rfl, hbg, hg, hnc, hcm, hcs, htake⟩
    · have hx : xs = [] := List.eq_nil_of_length_eq_zero (by simpa using hlen)
      subst hx
      by_cases hm : m = 0
      · subst hm
        have hn : news = [] := List.eq_nil_of_length_eq_zero (by simpa using hl)
        subst hn
        refine ⟨.slice none 0 0, w, ?_, rowAt_nil M w e size, fun _ _ _ => rfl, Bel.refl _ _, fun b hb => .inl hb, _, _, _, rfl⟩
        simp [Builtin.append_, run_underlying ht, sizeOf, typeInfo, hi, Builtin.lenOf, Builtin.firstCells, loadCells, loadCellsFrom]
      · have hr := run_append_nil (P := P) w t ty e i z ht hi hz ad m c news (by rw [hsize]; exact hl) hnews (by omega) (by omega) (by have hb := hbytes; simp only [Nat.zero_add] at hb; omega)
        have hgr := grown 0 (by omega)
        simp only [Nat.zero_add, List.nil_append, Array.empty_append] at hgr ⊢
        exact ⟨_, _, hr, hgr, fun k hk _ => alloc_keep w.drew _ k hk, hbelow _, fun b hb => .inr (by simp [Blk] at hb; omega), _, _, _, rfl⟩
    · by_cases hroom : n + m ≤ cap
      · have hfit : n * i.size + news.length ≤ cur.size := by rw [hl, hcs, hsize, ← Nat.add_mul]; exact Nat.mul_le_mul_right _ hroom
        have hr := run_append_room (P := P) w t ty e i ht hi g n cap cur hg ad m c news (by rw [hsize]; exact hl) hnews h1 hroom hfit
        refine ⟨_, _, hr, ⟨hxn, .inr ⟨g, cap, _, rfl, hbg, setRow_heap w g cur _ e _ hg, hroom, hcm, ?_, ?_⟩⟩, ?_, ?_, fun b hb => .inl hb, _, _, _, rfl⟩
        · rw [hsize] at hfit ⊢
          simp only [List.size_toArray, List.length_append, List.length_take, List.length_drop, Array.length_toList]
          omega
        · rw [hsize, htake, ← hxn]
          exact List.take_left
        · intro k _ hk
          exact setRow_other w g k _ (fun e => hk (by simp [Blk, e]))
        · exact ⟨rfl, rfl, rfl, by simp, fun k hk hn => setRow_other w g k _ (fun e => hn (e ▸ hbg))⟩
      · have holds : ∀ j u, xs[j]? = some u → w.cell? ((⟨g, 0, none⟩ : Addr).add j) = some u := by
          intro j u hu
          rw [Addr.add_mid]
          have hj := (List.getElem?_eq_some_iff.1 hu).1
          rw [cell_take hg htake hj, hu]
        have hr := run_append_grow (P := P) w t ty e i z ht hi hz ⟨g, 0, none⟩ n cap xs (by rw [hsize]; exact hlen) holds ad m c news (by rw [hsize]; exact hl) hnews (by omega) (by omega) (growslice_fits (by omega) hbytes)
        have hgr := grown cap (by omega)
        exact ⟨_, _, hr, hgr, fun k hk _ => alloc_keep w.drew _ k hk, hbelow _, fun b hb => .inr (by simp [Blk] at hb; omega), _, _, _, rfl⟩

theorem rowAt_que {M : Nat → Prop} {w : World} {e : TypeId} {size n : Nat} {v : Value} {xs : List Value} (h : rowAt M w e size v n xs) : queAt M w e size v n xs := by
  obtain ⟨hl, h | ⟨g, cap, cur, h, hM, hh, h1, h2, h3, h4⟩⟩ := h
  · exact ⟨hl, .inl h⟩
  · exact ⟨hl, .inr ⟨g, 0, cap, cur, by rw [h, Nat.zero_mul], hM, hh, h1, by omega, by rw [Nat.zero_add, h3]; exact Nat.le_refl _, by rw [Nat.zero_mul, List.drop_zero]; exact h4⟩⟩

/-- append to an array of the call's own that lies somewhere in its block. -/
theorem run_append_que {P : Program} {w : World} {M : Nat → Prop} {t ty e size : Nat} {i : TypeInfo} {z : Value} (ht : P.underlying t = some (.slice e)) (hi : P.info? e = some i) (hz : i.zero = some z) (hsize : i.size = size) (hzs : z.cells.size = size)
    {v : Value} {n : Nat} {xs : List Value} (hown : queAt M w e size v n xs)
    {y : Value} {m : Nat} {news : List Value} (hy : (y = .slice none 0 0 ∧ m = 0 ∧ news = []) ∨ ∃ ad c, y = .slice (some ad) m c ∧ (∀ j u, news[j]? = some u → w.cell? (ad.add j) = some u)) (hl : news.length = m * size) (h1 : ∀ u ∈ news, u.oneCell' = true)
    (h63 : n + m ≤ maxLen) (hbytes : (n + m) * i.bytes ≤ 140737488355328) (hbase : M w.heap.size) :
    ∃ v' w', (Builtin.append_ #[t, t] ty #[v, y]).run P w = .ok v' w' ∧ queAt M w' e size v' (n + m) (xs ++ news) ∧ (∀ k, k < w.heap.size → ¬ Blk v k → w'.heap[k]? = w.heap[k]?) ∧ Bel M w w' ∧
      (∀ b, Blk v' b → Blk v b ∨ w.heap.size ≤ b) ∧ ∃ a l c, v' = .slice a l c := by
  rcases hown with ⟨hlen, ⟨rfl, rfl⟩ | ⟨g, off, cap, cur, rfl, hbg, hg, hnc, hcm, hcs, htake⟩⟩
  · obtain ⟨v', w', h2, h3, h4, h5, h6, h7⟩ := run_append (ty := ty) ht hi hz hsize hzs (v := .slice none 0 0) (n := 0) (xs := xs) ⟨hlen, .inl ⟨rfl, rfl⟩⟩ (by intro a l c he; cases he; exact Nat.le_refl _) hy hl h1 h63 hbytes hbase
    exact ⟨v', w', h2, rowAt_que h3, fun k hk hn => h4 k hk (fun e => hn e.1), h5, h6, h7⟩
  · rcases hy with ⟨rfl, rfl, rfl⟩ | ⟨ad, c, rfl, hnews⟩
    · refine ⟨.slice (some ⟨g, off * size, none⟩) n cap, w, ?_, ⟨by simpa using hlen, .inr ⟨g, off, cap, cur, rfl, hbg, hg, hnc, hcm, hcs, by simpa using htake⟩⟩, fun _ _ _ => rfl, Bel.refl _ _, fun b hb => .inl hb, _, _, _, rfl⟩
      simp [Builtin.append_, run_underlying ht, sizeOf, typeInfo, hi, Builtin.lenOf, hnc, Builtin.firstCells, storeCells]
    · have hxn : (xs ++ news).length = (n + m) * size := by rw [List.length_append, hlen, hl, Nat.add_mul]
      have hm : maxLen = 9223372036854775807 := rfl
      by_cases hroom : n + m ≤ cap
      · have hle : off * size + n * size + news.length ≤ cur.toList.length := by
          rw [hl]
          have : (off + (n + m)) * size ≤ (off + cap) * size := Nat.mul_le_mul_right _ (by omega)
          rw [Nat.add_mul, Nat.add_mul] at this
          simp only [Array.length_toList]; omega
        have hcur : cur.toList.toArray = cur := by simp
        have hh' : w.heap[g]? = some (.cells cur.toList.toArray e (0, 0)) := by rw [hcur]; exact hg
        have hr := run_append_room_src (P := P) w t t ty e i ht hi g (off * size) n cap _ m news (Src.ofSlice w ht ad m c news (by rw [hsize]; exact hl) hnews h1) hroom (fun j hj => by
            rw [hsize, cell_of_row w g _ cur e (0, 0) hg]
            have : off * size + n * size + j < cur.size := by simp only [Array.length_toList] at hle; omega
            simp [this]) (fun j hj => frozen_of_row w g _ _ e hg)
        rw [hsize] at hr
        refine ⟨_, _, hr, ⟨hxn, .inr ⟨g, off, cap, _, rfl, hbg, setCells_row hh' hle, hroom, hcm, ?_, ?_⟩⟩, fun k _ hk => setCells_other _ _ _ _ (fun e => hk (by subst e; rfl)), Bel.setCells hbg _ _ (Bel.refl _ _), fun b hb => .inl hb, _, _, _, rfl⟩
        · simp only [List.size_toArray, List.length_append, List.length_take, List.length_drop, Array.length_toList] at hle ⊢
          omega
        · have e1 : (cur.toList.take (off * size + n * size)).length = off * size + n * size := by simp only [List.length_take, Array.length_toList] at hle ⊢; omega
          simp only []
          rw [List.drop_append, e1, List.drop_take, Nat.add_sub_cancel_left]
          have e2 : off * size - (off * size + n * size) = 0 := by omega
          rw [e2, List.drop_zero, htake, ← hxn, ← List.append_assoc]
          exact List.take_left
      · have holds : ∀ j u, xs[j]? = some u → w.cell? ((⟨g, off * size, none⟩ : Addr).add j) = some u := by
          intro j u hu
          rw [Addr.add_mid, cell_mid hg htake (List.getElem?_eq_some_iff.1 hu).1, hu]
        have hr := run_append_grow (P := P) w t ty e i z ht hi hz ⟨g, off * size, none⟩ n cap xs (by rw [hsize]; exact hlen) holds ad m c news (by rw [hsize]; exact hl) hnews (by omega) (by omega) (growslice_fits (by omega) hbytes)
        have hge := grownCap_ge w (n + m) cap e
        have hcm : grownCap w (n + m) cap e ≤ maxLen := grownCap_le_maxLen w (n + m) cap e h63
        refine ⟨_, _, hr, rowAt_que ⟨hxn, .inr ⟨w.heap.size, _, _, rfl, hbase, heap_alloc_new w.drew _, hge, hcm, ?_, ?_⟩⟩, fun k hk _ => alloc_keep w.drew _ k hk, ((Bel.refl M w).drew).alloc _, fun b hb => .inr (by simp [Blk] at hb; omega), _, _, _, rfl⟩
        · simp only [Array.size_append, List.size_toArray, size_zeroCells, hzs, hlen, hl, ← Nat.add_mul]
          congr 1; omega
        · simp only [Array.toList_append, List.append_assoc]
          rw [← List.append_assoc, ← hxn]
          exact List.take_left

/-- A slice of pure data as append reads it. -/
theorem slice_src {H : Nat → Prop} {w : World} {ρ : Nat → Value} {t : Ty} {ys : List t.D} {v : Value} (h : RepL H w ρ (.z (.slice t) ys) v) :
    ∃ cells, repL (fun c x => t.rep H w c x) cells ys ∧ ((v = .slice none 0 0 ∧ ys.length = 0 ∧ cells = []) ∨ ∃ ad c, v = .slice (some ad) ys.length c ∧ (∀ j u, cells[j]? = some u → w.cell? (ad.add j) = some u)) := by
  obtain ⟨ha, h⟩ := h
  have hv : v.cells.toList = [v] := by
    cases v <;> simp [Ty.isAgg] at ha <;> rfl
  rw [hv] at h
  rcases h with ⟨he, hx⟩ | ⟨b, o, p, cap, cells, he, hp, h1, h2, h3, h4⟩
  · simp at he; subst hx; exact ⟨[], rfl, .inl ⟨he, rfl, rfl⟩⟩
  · simp at he
    refine ⟨cells, h3, .inr ⟨⟨b, o, p⟩, cap, he, fun j u hu => ?_⟩⟩
    have hne : ys ≠ [] := by
      intro e; subst e
      have : cells = [] := h3
      subst this; simp at hu
    obtain rfl := hp hne
    rw [Addr.add_mid, h4.2 j (List.getElem?_eq_some_iff.1 hu).1, hu]

theorem elem_info {P : Program} {T : Tab} (hT : TabOK P T) {t E : TypeId} {v : Ty} (ht : get? T.types t = some (.slice v)) (hE : get? T.elems t = some E) :
    P.underlying t = some (.slice E) ∧ ∃ j, P.info? E = some j ∧ j.size = v.w ∧ j.bytes ≤ 24 * v.w ∧ j.zero = some (mkV v.isAgg v.zeroCells) ∧ (v.isAgg = false → v.w = 1) := by
  have hel := hT.elems _ _ hE
  obtain ⟨i, dd, hi, hu, hsz, hrow, hz, el, j, rfl, h2, h3, h4, h5, h6⟩ := hT.types _ _ ht
  have hEe : E = el := by rw [hel] at hu; cases hu; rfl
  subst hEe
  exact ⟨hel, j, h2, h3, h4, h5, h6⟩

/-- A table's number names nothing else. -/
theorem mat_names {H : Nat → Prop} {w : World} {ρ : Nat → Value} {id : Nat} {l : List Value} (h1 : ρ id = .tuple ⟨l⟩) : (∀ x v, x = .ownS id ∨ (∃ o, x = .ownP id o) ∨ (∃ a b, x = .ownE id a b) ∨ (∃ a b, x = .ownW id a b) → ¬ RepL H w ρ x v) ∧ ∀ f caps v, (LV.fn f caps).isOf id = true → ¬ RepL H w ρ (.fn f caps) v := by
  constructor
  · rintro x v (rfl | ⟨o, rfl⟩ | ⟨a, b, rfl⟩ | ⟨a, b, rfl⟩) h
    · obtain ⟨h2, a, n, c, h3⟩ := h; rw [h1, h3] at h2; cases h2
    · obtain ⟨b, h2, _⟩ := h; rw [h1] at h2; cases h2
    · obtain ⟨_, _, _, _, h2, _⟩ := h; rw [h1] at h2; cases h2
    · obtain ⟨_, _, _, h2, _⟩ := h; rw [h1] at h2; cases h2
  · intro f caps v hof h
    obtain ⟨vs, _, h⟩ := h
    simp only [LV.isOf] at hof
    have key : ∀ {caps : List CV} {vs : List Value}, caps.any (CV.isOf id) = true → ¬ All2 (RepCV H w ρ) caps vs := by
      intro caps
      induction caps with
      | nil => intro vs h; simp at h
      | cons c caps ih =>
        intro vs h h2
        cases vs with
        | nil => exact h2
        | cons v vs =>
          simp only [List.any_cons, Bool.or_eq_true] at h
          rcases h with h | h
          · cases c with
            | z t x => simp [CV.isOf] at h
            | p i =>
              simp [CV.isOf] at h; subst h
              obtain ⟨b, h3, _⟩ := h2.1
              rw [h1] at h3; cases h3
          · exact ih h h2.2
    exact key hof h

/-- A table of rows has one row more: all names stand. -/
theorem RepL_matMore {H H' : Nat → Prop} {w w' : World} {ρ ρ' : Nat → Value} {id : Nat} {h : Value} {vs us : List Value} (hh : ∀ b, b < w.heap.size → H' b → H b) (hs : Stays H w w') (hρ : ∀ i, i ≠ id → ρ' i = ρ i) (h1 : ρ id = .tuple ⟨h :: vs⟩) (h2 : ρ' id = .tuple ⟨h :: (vs ++ us)⟩)
    (hS : ∀ x v, x = .ownS id ∨ (∃ o, x = .ownP id o) ∨ (∃ a b, x = .ownE id a b) ∨ (∃ a b, x = .ownW id a b) → ¬ RepL H w ρ x v) (hF : ∀ f caps v, (LV.fn f caps).isOf id = true → ¬ RepL H w ρ (.fn f caps) v) {x : LV} {v : Value} (hx : RepL H w ρ x v) : RepL H' w' ρ' x v := by
  by_cases hof : x.isOf id = true
  · have hv : ∀ k u, vs[k]? = some u → (vs ++ us)[k]? = some u := fun k u hk => by
      rw [List.getElem?_append_left (List.getElem?_eq_some_iff.1 hk).1]; exact hk
    cases x with
    | z t y => cases hof
    | val u => cases hof
    | junk => cases hof
    | ownS i => simp [LV.isOf] at hof; subst hof; exact absurd hx (hS _ _ (.inl rfl))
    | ownP i o => simp [LV.isOf] at hof; subst hof; exact absurd hx (hS _ _ (.inr (.inl ⟨o, rfl⟩)))
    | ownE i a b => simp [LV.isOf] at hof; subst hof; exact absurd hx (hS _ _ (.inr (.inr (.inl ⟨a, b, rfl⟩))))
    | ownW i a b => simp [LV.isOf] at hof; subst hof; exact absurd hx (hS _ _ (.inr (.inr (.inr ⟨a, b, rfl⟩))))
    | fn f caps => exact absurd hx (hF _ _ _ hof)
    | ownM i =>
      simp [LV.isOf] at hof; subst hof
      obtain ⟨a, n, c, vs', hb, hv'⟩ := hx
      rw [h1] at hb
      simp only [Value.tuple.injEq, Array.mk.injEq, List.cons.injEq] at hb
      exact ⟨a, n, c, _, by rw [h2, hb.1], hv'⟩
    | ownA i k =>
      simp [LV.isOf] at hof; subst hof
      obtain ⟨b, n, c, vs', hb, hv'⟩ := hx
      rw [h1] at hb
      simp only [Value.tuple.injEq, Array.mk.injEq, List.cons.injEq] at hb
      exact ⟨b, n, c, _, by rw [h2, hb.1], hv'⟩
    | ownR i k =>
      simp [LV.isOf] at hof; subst hof
      obtain ⟨h0, vs', a, n, c, hb, hk, hv'⟩ := hx
      rw [h1] at hb
      simp only [Value.tuple.injEq, Array.mk.injEq, List.cons.injEq] at hb
      obtain ⟨rfl, rfl⟩ := hb
      exact ⟨_, _, a, n, c, h2, hv _ _ hk, hv'⟩
    | ownB i k wd q =>
      simp [LV.isOf] at hof; subst hof
      obtain ⟨h0, vs', b, n, c, hb, hk, hv'⟩ := hx
      rw [h1] at hb
      simp only [Value.tuple.injEq, Array.mk.injEq, List.cons.injEq] at hb
      obtain ⟨rfl, rfl⟩ := hb
      exact ⟨_, _, b, n, c, h2, hv _ _ hk, hv'⟩
  · exact RepL_move hh hs (fun i hi => hρ i (fun e => by subst e; exact hof hi)) hx

theorem effOp_append {X : Cx} (hT : TabOK X.P X.T) {s s' : AState} {a : Act} {w : World} (h : St X s a w) {o : Oper} {d : Nat} {c : Call} (hcal : c.callee = .builtin .append) (hop : o.op = .call c) (hd : o.dst = some d) (hdN : X.T.ok d = true) {C : Prop} (he : appendOp X.T s (some d) c.args.toList c.argTypes.toList = some (C, s')) (hC : C)
    {K : Act → World → Prop} {Q : Exit → Act → World → Prop} (hK : ∀ a' w', St X s' a' w' → K a' w') : o.wpIn (fw X.r) 2 X.P a w K Q := by
  obtain ⟨callee, ⟨args⟩, ⟨types⟩⟩ := c
  simp only at hcal he
  subst hcal
  unfold appendOp at he
  obtain ⟨ρ, hf⟩ := h.fits
  split at he
  · rename_i d' x y t u hdd
    cases hdd
    have hexec : ∀ {v' : Value} {w' : World}, (Builtin.append_ #[t, u] o.type #[a.eval x, a.eval y]).run X.P w = .ok v' w' → (execOp a.eval o).run X.P w = .ok (.value v') w' := by
      intro v' w' hr
      unfold execOp; rw [hop]
      simp [resolve, invoke, builtin, hr]
    split at he
    · rename_i id v E hx ht hE
      split at he
      · rename_i hc
        obtain ⟨htu, hw⟩ := hc
        subst htu
        split at he
        · rename_i ys s1 hys
          obtain ⟨g1, g2⟩ := pureArg_ok hf h.others hys
          split at he
          · rename_i t' e xs hg
            split at he
            · rename_i htv
              subst htv
              split at he
              · rename_i hee
                obtain ⟨hee, hidB⟩ := hee
                subst hee
                cases he
                obtain ⟨hu, j, j1, j2, j3, j4, j5⟩ := elem_info hT ht hE
                obtain ⟨hv, pa, pn, pc, hv2⟩ := leaf_ok hf hx
                obtain ⟨cells, hr, hrow⟩ := g1.own _ (get?_mem hg)
                obtain ⟨ycells, hyr, hy⟩ := slice_src g2
                have hxl := repL_length (fun c x h => t'.rep_length h) hr
                have hyl := repL_length (fun c x h => t'.rep_length h) hyr
                obtain ⟨r1, r2⟩ := roomy_fits hC hw
                have hbytes : (xs.length + ys.length) * j.bytes ≤ 140737488355328 := by
                  have : (xs.length + ys.length) * j.bytes ≤ (xs.length + ys.length) * (24 * t'.w) := Nat.mul_le_mul_left _ j3
                  omega
                have hcs := mkV_cells j5 t'.zeroCells t'.zeroCells_length t'.zeroCells_one
                have hzs : (mkV t'.isAgg t'.zeroCells).cells.size = t'.w := by
                  rw [← Array.length_toList, hcs, t'.zeroCells_length]
                have hnc : ∀ a l c, ρ id = .slice a l c → l ≤ c := by
                  intro a l c he
                  obtain ⟨q1, _, _, _, q2⟩ := own_val g1.own hg he
                  rcases q2 with ⟨_, q2, _⟩ | ⟨_, _, _, q2, _⟩
                  · rw [q1, q2]; exact Nat.zero_le _
                  · rw [q1]; exact q2
                have hcell : ∀ b, Blk (ρ id) b → ∃ o : Obj, w.heap[b]? = some o ∧ o.isCells = true := fun b hb => (g1.own _ (get?_mem hg)).cells hb
                obtain ⟨v', w', hrun, hrow', hkeep0, hbel, hval, hshape⟩ := run_append (ty := o.type) hu j1 j4 j2 hzs hrow hnc (m := ys.length) (by
                  rcases hy with ⟨q1, q2, q3⟩ | hy
                  · exact .inl ⟨q1, q2, q3⟩
                  · exact .inr hy) (by rw [hyl]) (repL_oneCell hyr) r1 hbytes (Cx.M_new h.below)
                have hkeep : ∀ k, k < w.heap.size → ¬ Blk (ρ id) k → w'.heap[k]? = w.heap[k]? := fun k hk hn => hkeep0 k hk (fun e => hn e.1)
                have hko : KeepsOthers w w' := ⟨hbel.size, fun k o' hk ho => (hkeep k (Array.getElem?_eq_some_iff.1 hk).1 (fun e => by
                  obtain ⟨o2, q1, q2⟩ := hcell k e
                  rw [hk] at q1; cases q1; rw [q2] at ho; cases ho)).trans hk⟩
                refine wp_of_value (hexec (by rw [hv]; exact hrun)) (hK _ _ ?_)
                rw [hd]
                obtain ⟨ρ', q1, q2⟩ := g1.renew (w' := w') hg (f := LV.kill id) (val := v') (obj' := .arr t' e (xs ++ ys))
                  (fun H' ρ' hh hs hρ _ x v hx => RepL_kill hh hs hρ hx) hkeep hval
                  (fun H' ρ' hh hs hρ hρd => ⟨cells ++ ycells, repL_append (repL_move hh hs hr) (repL_move hh hs hyr), by rw [hρd]; simpa using hrow'⟩) (fun hB hF => absurd hidB (by simp only [Tab.mayMove, hF, Bool.or_false, decide_eq_true_eq]; omega))
                have q3 := q2.put (d := d) (by rw [h.size]; exact Tab.ok_lt hdN) (v := .l (.ownS id)) (val := v') ⟨q1.symm, hshape⟩
                exact h.next hdN hko (h.below.trans hbel (fun _ _ h => h)) q3
              · cases he
            · cases he
          · rename_i t' e xs hg
            split at he
            · rename_i htv
              subst htv
              split at he
              · rename_i hee
                obtain ⟨hee, hidB⟩ := hee
                subst hee
                cases he
                obtain ⟨hu, j, j1, j2, j3, j4, j5⟩ := elem_info hT ht hE
                obtain ⟨hv, pa, pn, pc, hv2⟩ := leaf_ok hf hx
                obtain ⟨cells, hr, hrow⟩ := g1.own _ (get?_mem hg)
                obtain ⟨ycells, hyr, hy⟩ := slice_src g2
                have hxl := repL_length (fun c x h => t'.rep_length h) hr
                have hyl := repL_length (fun c x h => t'.rep_length h) hyr
                obtain ⟨r1, r2⟩ := roomy_fits hC hw
                have hbytes : (xs.length + ys.length) * j.bytes ≤ 140737488355328 := by
                  have : (xs.length + ys.length) * j.bytes ≤ (xs.length + ys.length) * (24 * t'.w) := Nat.mul_le_mul_left _ j3
                  omega
                have hcs := mkV_cells j5 t'.zeroCells t'.zeroCells_length t'.zeroCells_one
                have hzs : (mkV t'.isAgg t'.zeroCells).cells.size = t'.w := by
                  rw [← Array.length_toList, hcs, t'.zeroCells_length]
                have hcell : ∀ b, Blk (ρ id) b → ∃ o : Obj, w.heap[b]? = some o ∧ o.isCells = true := fun b hb => (g1.own _ (get?_mem hg)).cells hb
                obtain ⟨v', w', hrun, hrow', hkeep, hbel, hval, hshape⟩ := run_append_que (ty := o.type) hu j1 j4 j2 hzs hrow (m := ys.length) (by
                  rcases hy with ⟨q1, q2, q3⟩ | hy
                  · exact .inl ⟨q1, q2, q3⟩
                  · exact .inr hy) (by rw [hyl]) (repL_oneCell hyr) r1 hbytes (Cx.M_new h.below)
                have hko : KeepsOthers w w' := ⟨hbel.size, fun k o' hk ho => (hkeep k (Array.getElem?_eq_some_iff.1 hk).1 (fun e => by
                  obtain ⟨o2, q1, q2⟩ := hcell k e
                  rw [hk] at q1; cases q1; rw [q2] at ho; cases ho)).trans hk⟩
                refine wp_of_value (hexec (by rw [hv]; exact hrun)) (hK _ _ ?_)
                rw [hd]
                obtain ⟨ρ', q1, q2⟩ := g1.renew (w' := w') hg (f := LV.kill id) (val := v') (obj' := .que t' e (xs ++ ys))
                  (fun H' ρ' hh hs hρ _ x v hx => RepL_kill hh hs hρ hx) hkeep hval
                  (fun H' ρ' hh hs hρ hρd => ⟨cells ++ ycells, repL_append (repL_move hh hs hr) (repL_move hh hs hyr), by rw [hρd]; simpa using hrow'⟩) (fun hB _ => absurd hB (Nat.not_le.2 hidB))
                have q3 := q2.put (d := d) (by rw [h.size]; exact Tab.ok_lt hdN) (v := .l (.ownS id)) (val := v') ⟨q1.symm, hshape⟩
                exact h.next hdN hko (h.below.trans hbel (fun _ _ h => h)) q3
              · cases he
            · cases he
          · cases he
        · cases he
      · cases he
    · rename_i id jr v E hx ht hE
      split at he
      · rename_i hc
        obtain ⟨htu, hw⟩ := hc
        subst htu
        split at he
        · rename_i ys s1 hys
          obtain ⟨g1, g2⟩ := pureArg_ok hf h.others hys
          split at he
          · rename_i t' T' e rows idx hg
            split at he
            · rename_i htv
              subst htv
              split at he
              · rename_i hee
                obtain ⟨hee, hidB⟩ := hee
                subst hee
                cases he
                obtain ⟨hjr, hC⟩ := hC
                obtain ⟨hu, j, j1, j2, j3, j4, j5⟩ := elem_info hT ht hE
                obtain ⟨h0, vs, pa, pn, pc, hρv, hjv, hv2⟩ := leaf_ok hf hx
                obtain ⟨hcells, hm⟩ := mat_val g1.own hg hρv
                obtain ⟨hj1, hj2⟩ := live_some hjr
                have hl := hm.len
                generalize hxs : rowOf rows jr = xs at *
                obtain ⟨cells, hr, hrow⟩ := hm.row jr _ _ hj1 hjv
                obtain ⟨ycells, hyr, hy⟩ := slice_src g2
                have hxl := repL_length (fun c x h => t'.rep_length h) hr
                have hyl := repL_length (fun c x h => t'.rep_length h) hyr
                obtain ⟨r1, r2⟩ := roomy_fits hC hw
                have hbytes : (xs.length + ys.length) * j.bytes ≤ 140737488355328 := by
                  have : (xs.length + ys.length) * j.bytes ≤ (xs.length + ys.length) * (24 * t'.w) := Nat.mul_le_mul_left _ j3
                  omega
                have hcs := mkV_cells j5 t'.zeroCells t'.zeroCells_length t'.zeroCells_one
                have hzs : (mkV t'.isAgg t'.zeroCells).cells.size = t'.w := by
                  rw [← Array.length_toList, hcs, t'.zeroCells_length]
                have hnc : ∀ p l c, a.eval x = .slice p l c → l ≤ c := by
                  intro p l c he
                  obtain ⟨_, ⟨q1, q2⟩ | ⟨g, cap, cur, q1, _, _, q2, _⟩⟩ := hrow
                  · rw [he] at q1; cases q1; exact Nat.le_refl _
                  · rw [he] at q1; cases q1; exact q2
                obtain ⟨v', w', hrun, hrow', hkeep0, hbel, hval, hshape⟩ := run_append (ty := o.type) hu j1 j4 j2 hzs hrow hnc (m := ys.length) (by
                  rcases hy with ⟨q1, q2, q3⟩ | hy
                  · exact .inl ⟨q1, q2, q3⟩
                  · exact .inr hy) (by rw [hyl]) (repL_oneCell hyr) r1 hbytes (Cx.M_new h.below)
                have hkeep : ∀ k, k < w.heap.size → ¬ Blk (a.eval x) k → w'.heap[k]? = w.heap[k]? := fun k hk hn => hkeep0 k hk (fun e => hn e.1)
                have hBv : ∀ b, Blk (a.eval x) b → blk (a.eval x) = some b := fun b hb => (Blk_slice hv2).1 hb
                obtain ⟨p1, p2, p3, p4⟩ := hshape
                have hBv' : ∀ b, blk v' = some b → blk (a.eval x) = some b ∨ w.heap.size ≤ b := fun b hb => by
                  rcases hval b ((Blk_slice p4).2 hb) with q5 | q5
                  · exact .inl (hBv b q5)
                  · exact .inr q5
                have hmem := List.mem_of_getElem? hjv
                have hlt : ∀ u ∈ h0 :: vs, ∀ b, blk u = some b → b < w.heap.size := fun u hu b hb => cells_lt (hm.Mof hu hb).2
                have hko : KeepsOthers w w' := ⟨hbel.size, fun k o' hk ho => (hkeep k (Array.getElem?_eq_some_iff.1 hk).1 (fun e => by
                  obtain ⟨_, cur, q1⟩ := rowAt_blk hrow (hBv k e)
                  rw [hk] at q1; cases q1; cases ho)).trans hk⟩
                refine wp_of_value (hexec hrun) (hK _ _ ?_)
                rw [hd]
                have hoth : ∀ u ∈ h0 :: vs, ∀ b, blk u = some b → blk (a.eval x) ≠ some b → w'.heap[b]? = w.heap[b]? := fun u hu b hb hne => hkeep b (hlt u hu b hb) (fun e => hne (hBv b e))
                have hgone : ∀ b, blk (a.eval x) = some b → ∃ o : Obj, w'.heap[b]? = some o ∧ o.isCells = true := fun b hb => by
                  by_cases hb' : blk v' = some b
                  · obtain ⟨_, cur, q⟩ := rowAt_blk hrow' hb'
                    exact ⟨_, q, rfl⟩
                  · obtain ⟨o1, o2, o3⟩ := (hm.Mof (List.mem_cons_of_mem _ hmem) hb).2
                    exact ⟨o1, by rw [hkeep0 b (cells_lt ⟨o1, o2, o3⟩) (fun e => hb' ((Blk_slice p4).1 e.2))]; exact o2, o3⟩
                obtain ⟨ρ', q1, q2⟩ := g1.renew (w' := w') hg (f := _root_.id) (val := .tuple ⟨h0 :: (vs ++ [v'])⟩) (obj' := .mat t' T' e (rows.set jr none ++ [some (xs ++ ys)]) idx)
                  (fun H' ρ' hh hs hρ hρd x v hx => RepL_matMore hh hs hρ hρv hρd (mat_names hρv).1 (mat_names hρv).2 hx)
                  (fun k hk hne => hkeep k hk (fun e => hne (by rw [hρv]; exact ⟨_, List.mem_cons_of_mem _ hmem, hBv k e⟩)))
                  (fun b hb => by
                    obtain ⟨u, hu, hub⟩ := hb
                    rw [hρv]
                    rcases List.mem_cons.1 hu with rfl | hu
                    · exact .inl ⟨_, List.mem_cons_self .., hub⟩
                    · rcases List.mem_append.1 hu with hu | hu
                      · exact .inl ⟨_, List.mem_cons_of_mem _ hu, hub⟩
                      · rw [List.mem_singleton.1 hu] at hub
                        rcases hBv' b hub with q | q
                        · exact .inl ⟨_, List.mem_cons_of_mem _ hmem, q⟩
                        · exact .inr q)
                  (fun H' ρ' hh hs hρ hρd => by
                    have hset : ∀ k zs, (rows.set jr none ++ [some (xs ++ ys)])[k]? = some (some zs) → (k ≠ jr ∧ k < rows.length ∧ rows[k]? = some (some zs)) ∨ (k = rows.length ∧ zs = xs ++ ys) := by
                      intro k zs hk
                      by_cases hkl : k < rows.length
                      · rw [List.getElem?_append_left (by simpa using hkl), List.getElem?_set] at hk
                        by_cases e1 : jr = k
                        · rw [if_pos e1] at hk; simp [hj2] at hk
                        · rw [if_neg e1] at hk; exact .inl ⟨fun e2 => e1 e2.symm, hkl, hk⟩
                      · rw [List.getElem?_append_right (by simpa using hkl), List.length_set] at hk
                        by_cases e1 : k - rows.length = 0
                        · rw [e1] at hk; simp at hk; exact .inr ⟨by omega, hk.symm⟩
                        · rw [List.getElem?_eq_none (by simp; omega)] at hk; cases hk
                    have hvs : ∀ k v, (vs ++ [v'])[k]? = some v → (k < vs.length ∧ vs[k]? = some v) ∨ (k = vs.length ∧ v = v') := by
                      intro k v hk
                      by_cases hkl : k < vs.length
                      · rw [List.getElem?_append_left hkl] at hk; exact .inl ⟨hkl, hk⟩
                      · rw [List.getElem?_append_right (by omega)] at hk
                        by_cases e1 : k - vs.length = 0
                        · rw [e1] at hk; simp at hk; exact .inr ⟨by omega, hk.symm⟩
                        · rw [List.getElem?_eq_none (by simp; omega)] at hk; cases hk
                    have hnew : ∀ u ∈ h0 :: vs, ∀ b, blk u = some b → blk (a.eval x) ≠ some b → blk v' ≠ some b := fun u hu b hb hne e1 => by
                      rcases hBv' b e1 with q | q
                      · exact hne q
                      · have := hlt u hu b hb; omega
                    have hhead : ∀ b, blk h0 = some b → blk (a.eval x) ≠ some b := fun b hb e1 => ((hm.shape _ hmem).2 b e1).1 hb
                    refine ⟨h0, vs ++ [v'], hcells, hρd, ⟨by simp [hl], rowAt_keep hm.hdr (fun b hb => hoth h0 (List.mem_cons_self ..) b hb (hhead b hb)), hm.one, fun i k hik => ?_, fun v hv => ?_, fun k zs v hxk hvk => ?_, fun i k zs us u v hne hik1 hik2 hu hv b hub => ?_⟩⟩
                    · obtain ⟨q1, q2⟩ := hm.at_ i k hik
                      exact ⟨by simp; omega, by rw [List.getElem?_append_left (by omega)]; exact q2⟩
                    · rcases List.mem_append.1 hv with hv | hv
                      · refine ⟨(hm.shape v hv).1, fun b hb => ⟨((hm.shape v hv).2 b hb).1, ((hm.shape v hv).2 b hb).2.1, ?_⟩⟩
                        by_cases e1 : blk (a.eval x) = some b
                        · exact hgone b e1
                        · rw [hoth v (List.mem_cons_of_mem _ hv) b hb e1]; exact ((hm.shape v hv).2 b hb).2.2
                      · rw [List.mem_singleton.1 hv]
                        refine ⟨⟨p1, p2, p3, p4⟩, fun b hb => ⟨fun e1 => hnew h0 (List.mem_cons_self ..) b e1 (hhead b e1) hb, ?_⟩⟩
                        obtain ⟨q3, cur, q4⟩ := rowAt_blk hrow' hb
                        exact ⟨q3, _, q4, rfl⟩
                    · rcases hset k zs hxk with ⟨q1, q2, q3⟩ | ⟨q1, rfl⟩ <;> rcases hvs k v hvk with ⟨q4, q5⟩ | ⟨q4, rfl⟩
                      · obtain ⟨cs, q6, q7⟩ := hm.row k zs v q3 q5
                        refine ⟨cs, repL_move hh hs q6, rowAt_keep q7 (fun b hb => hoth v (List.mem_cons_of_mem _ (List.mem_of_getElem? q5)) b hb (hm.apart k jr zs xs v _ q1 q3 hj1 q5 hjv b hb))⟩
                      · omega
                      · omega
                      · exact ⟨cells ++ ycells, repL_append (repL_move hh hs hr) (repL_move hh hs hyr), by simpa using hrow'⟩
                    · rcases hset i zs hik1 with ⟨q1, q2, q3⟩ | ⟨q1, rfl⟩ <;> rcases hset k us hik2 with ⟨q1', q2', q3'⟩ | ⟨q1', rfl⟩
                      · rw [List.getElem?_append_left (by omega)] at hu hv
                        exact hm.apart i k zs us u v hne q3 q3' hu hv b hub
                      · rw [List.getElem?_append_left (by omega)] at hu
                        rcases hvs k v hv with ⟨q4, _⟩ | ⟨_, rfl⟩
                        · omega
                        · exact hnew u (List.mem_cons_of_mem _ (List.mem_of_getElem? hu)) b hub (hm.apart i jr zs xs u _ q1 q3 hj1 hu hjv b hub)
                      · rw [List.getElem?_append_left (by omega)] at hv
                        rcases hvs i u hu with ⟨q4, _⟩ | ⟨_, rfl⟩
                        · omega
                        · exact fun e1 => hnew v (List.mem_cons_of_mem _ (List.mem_of_getElem? hv)) b e1 (hm.apart k jr us xs v _ q1' q3' hj1 hv hjv b e1) hub
                      · omega)
                  (fun hB _ => absurd hB (Nat.not_le.2 hidB))
                rw [mapEnv_id, mapOwn_id] at q2
                have q3 := q2.put (d := d) (by rw [h.size]; exact Tab.ok_lt hdN) (v := .l (.ownR id rows.length)) (val := v') ⟨_, _, p1, p2, p3, q1, by rw [← hl]; simp, p4⟩
                exact h.next hdN hko (h.below.trans hbel (fun _ _ h => h)) q3
              · cases he
            · cases he
          · cases he
        · cases he
      · cases he
    · rename_i n v E hx ht hE
      split at he
      · rename_i hc
        obtain ⟨hnil, htu, hw⟩ := hc
        subst htu
        split at he
        · rename_i ys s1 hys
          obtain ⟨g1, g2⟩ := pureArg_ok hf h.others hys
          cases he
          obtain ⟨hu, j, j1, j2, j3, j4, j5⟩ := elem_info hT ht hE
          have hv : a.eval x = n := leaf_ok hf hx
          have hv := hv.trans (nilS_val hnil)
          obtain ⟨ycells, hyr, hy⟩ := slice_src g2
          have hyl := repL_length (fun c x h => v.rep_length h) hyr
          obtain ⟨r1, r2⟩ := roomy_fits hC hw
          have hbytes : (0 + ys.length) * j.bytes ≤ 140737488355328 := by
            have : ys.length * j.bytes ≤ ys.length * (24 * v.w) := Nat.mul_le_mul_left _ j3
            rw [Nat.zero_add]; omega
          have hcs := mkV_cells j5 v.zeroCells v.zeroCells_length v.zeroCells_one
          have hzs : (mkV v.isAgg v.zeroCells).cells.size = v.w := by
            rw [← Array.length_toList, hcs, v.zeroCells_length]
          obtain ⟨v', w', hrun, hrow', hkeep0, hbel, hval, hshape⟩ := run_append (ty := o.type) hu j1 j4 j2 hzs (rowAt_nil X.M w E v.w) (by intro a l c he; cases he; exact Nat.le_refl _) (m := ys.length) (by
            rcases hy with ⟨q1, q2, q3⟩ | hy
            · exact .inl ⟨q1, q2, q3⟩
            · exact .inr hy) (by rw [hyl]) (repL_oneCell hyr) (by omega) hbytes (Cx.M_new h.below)
          have hkeep : ∀ k, k < w.heap.size → ¬ Blk (.slice none 0 0) k → w'.heap[k]? = w.heap[k]? := fun k hk hn => hkeep0 k hk (fun e => hn e.1)
          refine wp_of_value (hexec (by rw [hv]; exact hrun)) (hK _ _ ?_)
          rw [hd]
          have hko : KeepsOthers w w' := ⟨hbel.size, fun k o' hk _ => (hkeep k (Array.getElem?_eq_some_iff.1 hk).1 (by simp [Blk])).trans hk⟩
          have hkeep' : ∀ k, k < w.heap.size → w'.heap[k]? = w.heap[k]? := fun k hk => hkeep k hk (by simp [Blk])
          -- the new row is a fresh block, or nil
          obtain ⟨ρ', q1, q2⟩ : ∃ ρ', ρ' d = v' ∧ Fits X { env := mapEnv (LV.kill d) s1.env, own := (d, .arr v E ys) :: mapOwn (LV.kill d) (del s1.own d) } a w' ρ' := by
            refine g1.fresh' (Nat.lt_of_lt_of_le (Tab.ok_lt hdN) h.small.n) (w' := w') (d := d) (obj := .arr v E ys) (val := v') hkeep' (fun b hb => ?_) (fun H' ρ' hh hs hρ hρd => ⟨ycells, repL_move hh hs hyr, by rw [hρd]; simpa using hrow'⟩)
            rcases hval b hb with h0 | h0
            · simp [Blk] at h0
            · exact h0
          have q3 := q2.put (d := d) (by rw [h.size]; exact Tab.ok_lt hdN) (v := .l (.ownS d)) (val := v') ⟨q1.symm, hshape⟩
          exact h.next hdN hko (h.below.trans hbel (fun _ _ h => h)) q3
        · cases he
      · cases he
    · cases he
  · cases he

/-- A part of an array of the call's own: its tail; the array cut short; or what it was, frozen. -/
theorem effOp_slice {X : Cx} (hT : TabOK X.P X.T) {s s' : AState} {a : Act} {w : World} (h : St X s a w) {o : Oper} {d : Nat} {ty : TypeId} {x : Operand} {lo hi mx : Option Operand} (hop : o.op = .slice ty x lo hi mx) (hd : o.dst = some d) (hdN : X.T.ok d = true) {C : Prop} (he : effOp X.T s (some d) (.slice ty x lo hi mx) = some (C, s')) (hC : C)
    {K : Act → World → Prop} {Q : Exit → Act → World → Prop} (hK : ∀ a' w', St X s' a' w' → K a' w') : o.wpIn (fw X.r) 2 X.P a w K Q := by
  simp only [effOp] at he
  obtain ⟨ρ, hf⟩ := h.fits
  have hexec : ∀ {v : Value}, (Instr.sliceAt ty (a.eval x) (lo.map a.eval) (hi.map a.eval) (mx.map a.eval)).run X.P w = .ok v w → (execOp a.eval o).run X.P w = .ok (.value v) w := by
    intro v hr
    unfold execOp; rw [hop]; exact run_value hr
  split at he
  · rename_i d' id u hdd hx ht
    cases hdd
    have hty := hT.types _ _ ht
    obtain ⟨_, dd, -, hu, -, -, -, e, j, rfl, h2, h3, -⟩ := hty
    obtain ⟨hv, p, m, c, hv2⟩ := leaf_ok hf hx
    rw [hv] at hv2
    split at he
    · split at he
      · rename_i t E xs lo hg
        split at he
        · rename_i k l0 hl
          obtain ⟨l, rfl⟩ : ∃ l' : Int, l' = l0 := ⟨l0, rfl⟩
          split at he
          · rename_i e0
            obtain ⟨e0, hidB⟩ := e0
            subst e0
            cases he
            have hC1 : 0 ≤ l := hC.2.1
            have hC2 : l ≤ (xs.length : Int) := hC.2.2
            obtain ⟨hm, cells, hr, hcl, hor⟩ := que_val hf.own hg hv2
            subst hm
            have hlv := int_val (leaf_ok hf hl)
            have hb := run_bound (P := X.P) (w := w) (k := k) (n := l) (m := xs.length) (c := .sliceB) hC1 hC2
            obtain ⟨v', hrun, hq, hblk', hsh⟩ : ∃ v', (Instr.sliceAt ty (a.eval x) ((some lo).map a.eval) ((none : Option Operand).map a.eval) ((none : Option Operand).map a.eval)).run X.P w = .ok v' w ∧
                queAt X.M w E t.w v' (xs.drop l.toNat).length (cells.drop (l.toNat * t.w)) ∧ (∀ b, Blk v' b → Blk (ρ id) b) ∧ ∃ a l c, v' = .slice a l c := by
              have hdl : (cells.drop (l.toNat * t.w)).length = (xs.drop l.toNat).length * t.w := by
                rw [List.length_drop, List.length_drop, hcl, Nat.sub_mul]
              rcases hor with ⟨rfl, hx0, hc0⟩ | ⟨g, off, rfl, hM, h5, h6, cur, hh, h7, h8⟩
              · subst hx0; subst hc0
                have hl0 : l = 0 := by simp at hC2; omega
                subst hl0
                refine ⟨.slice none 0 0, ?_, ⟨hdl, .inl ⟨rfl, by simp⟩⟩, fun b hb => by simp [Blk] at hb, _, _, _, rfl⟩
                rw [hv, hv2]
                simp only [List.length_nil] at hb
                simp [Instr.sliceAt, run_underlying hu, Instr.slice, Instr.sliceBounds, hlv, hb, sizeOf, typeInfo, h2, h3]
              · by_cases hne : c = l.toNat
                · refine ⟨.slice (some ⟨g, off * t.w, none⟩) (xs.length - l.toNat) (c - l.toNat), ?_, ⟨hdl, .inr ⟨g, off, c - l.toNat, cur, by rw [List.length_drop], hM, hh, by rw [List.length_drop]; omega, by omega, ?_, ?_⟩⟩, fun b hb => by rw [hv2]; exact hb, _, _, _, rfl⟩
                  · rw [hv, hv2]
                    simp [Instr.sliceAt, run_underlying hu, Instr.slice, Instr.sliceBounds, hlv, hb, sizeOf, typeInfo, h2, h3, hne]
                  · exact Nat.le_trans (Nat.mul_le_mul_right _ (by omega)) h7
                  · have e0 : (xs.drop l.toNat).length = 0 := by rw [List.length_drop]; omega
                    have e1 : cells.drop (l.toNat * t.w) = [] := List.eq_nil_of_length_eq_zero (by rw [hdl, e0, Nat.zero_mul])
                    rw [e0, e1]; simp
                · refine ⟨.slice (some ⟨g, (off + l.toNat) * t.w, none⟩) (xs.length - l.toNat) (c - l.toNat), ?_, ⟨hdl, .inr ⟨g, off + l.toNat, c - l.toNat, cur, by rw [List.length_drop], hM, hh, by rw [List.length_drop]; omega, by omega, ?_, ?_⟩⟩, fun b hb => by rw [hv2]; exact hb, _, _, _, rfl⟩
                  · rw [hv, hv2]
                    simp [Instr.sliceAt, run_underlying hu, Instr.slice, Instr.sliceBounds, hlv, hb, sizeOf, typeInfo, h2, h3, hne, Addr.add_mid, Nat.add_mul]
                  · have e1 : off + l.toNat + (c - l.toNat) = off + c := by omega
                    rw [e1]; exact h7
                  · rw [← h8, Nat.add_mul, ← List.drop_drop, List.length_drop, Nat.sub_mul, List.drop_take]
            refine wp_of_value (hexec hrun) (hK _ _ ?_)
            rw [hd]
            obtain ⟨ρ', q1, q2⟩ := hf.renew (w' := w) hg (f := LV.kill id) (val := v') (obj' := .que t E (xs.drop l.toNat))
              (fun H' ρ' hh hs hρ _ x v hx => RepL_kill hh hs hρ hx) (fun k hk _ => rfl) (fun b hb => .inl (hblk' b hb))
              (fun H' ρ' hh hs hρ hρd => ⟨_, repL_drop (fun c x h => t.rep_length h) _ (repL_move hh hs hr), by rw [hρd]; exact hq⟩)
              (fun hB _ => absurd hB (Nat.not_le.2 hidB))
            have q3 := q2.put (d := d) (by rw [h.size]; exact Tab.ok_lt hdN) (v := .l (.ownS id)) (val := v') ⟨q1.symm, hsh⟩
            exact h.next hdN (KeepsOthers.refl _) h.below q3
          · cases he
        · cases he
      · cases he
    split at he
    · split at he
      · rename_i t E xs lo hg
        split at he
        · rename_i k l0 hl
          obtain ⟨l, rfl⟩ : ∃ l' : Int, l' = l0 := ⟨l0, rfl⟩
          split at he
          · rename_i e0; subst e0
            cases he
            have hC1 : 0 ≤ l := hC.1
            have hC2 : l < (xs.length : Int) := hC.2
            obtain ⟨hm, cells, hr, hcl, hor⟩ := own_val hf.own hg hv2
            subst hm
            rcases hor with ⟨_, hx0, _⟩ | ⟨g, rfl, hM, h5, h6, cur, hh, h7, h8⟩
            · subst hx0; simp at hC2; omega
            · have hlv := int_val (leaf_ok hf hl)
              have hb := run_bound (P := X.P) (w := w) (k := k) (n := l) (m := xs.length) (c := .sliceB) hC1 (by omega)
              have hrun : (Instr.sliceAt ty (a.eval x) ((some lo).map a.eval) ((none : Option Operand).map a.eval) ((none : Option Operand).map a.eval)).run X.P w = .ok (.slice (some ⟨g, l.toNat * t.w, none⟩) (xs.length - l.toNat) (c - l.toNat)) w := by
                have hne : ¬ c = l.toNat := by omega
                rw [hv, hv2]
                simp [Instr.sliceAt, run_underlying hu, Instr.slice, Instr.sliceBounds, hlv, hb, sizeOf, typeInfo, h2, h3, hne, Addr.add_mid]
              refine wp_of_value (hexec hrun) (hK _ _ ?_)
              rw [hd]
              exact h.put hf hdN (v := .l (.ownW id t.w l.toNat)) ⟨g, xs.length, c, hv2, by omega, rfl⟩
          · cases he
        · cases he
      · rename_i t E xs hi hg
        split at he
        · rename_i k n0 hl
          obtain ⟨n, rfl⟩ : ∃ n' : Int, n' = n0 := ⟨n0, rfl⟩
          split at he
          · rename_i e0
            obtain ⟨e0, hidB⟩ := e0
            subst e0
            cases he
            have hC1 : 0 ≤ n := hC.2.1
            have hC2 : n ≤ (xs.length : Int) := hC.2.2
            obtain ⟨hm, cells, hr, hcl, hor⟩ := own_val hf.own hg hv2
            subst hm
            have hlv := int_val (leaf_ok hf hl)
            have hcc : n ≤ (c : Int) := by
              rcases hor with ⟨_, hx0, hc0⟩ | ⟨g, _, _, h5, _⟩
              · subst hx0; simp at hC2; omega
              · omega
            have hb := run_bound (P := X.P) (w := w) (k := k) (n := n) (m := c) (c := .sliceAcap) hC1 hcc
            have hrun : (Instr.sliceAt ty (a.eval x) ((none : Option Operand).map a.eval) ((some hi).map a.eval) ((none : Option Operand).map a.eval)).run X.P w = .ok (.slice p n.toNat c) w := by
              rw [hv, hv2]
              have e1 : p.map (fun b : Addr => b.add (0 * t.w)) = p := by
                cases p <;> simp [Addr.add]
              simp [Instr.sliceAt, run_underlying hu, Instr.slice, Instr.sliceBounds, hlv, hb, sizeOf, typeInfo, h2]
              intro _
              simpa using e1
            refine wp_of_value (hexec hrun) (hK _ _ ?_)
            rw [hd]
            obtain ⟨ρ', q1, q2⟩ := hf.renew (w' := w) hg (f := LV.kill id) (val := .slice p n.toNat c) (obj' := .arr t E (xs.take n.toNat))
              (fun H' ρ' hh hs hρ _ x v hx => RepL_kill hh hs hρ hx) (fun k hk _ => rfl)
              (fun b hb => .inl (by
                rw [hv2]
                cases p <;> simp [Blk] at hb ⊢
                exact hb))
              (fun H' ρ' hh hs hρ hρd => by
                have hlen : (xs.take n.toNat).length = n.toNat := by simp only [List.length_take]; omega
                refine ⟨cells.take (n.toNat * t.w), repL_take (fun c x h => t.rep_length h) _ (repL_move hh hs hr), ?_, ?_⟩
                · simp only [List.length_take, hcl, hlen]
                  have : n.toNat * t.w ≤ xs.length * t.w := Nat.mul_le_mul_right _ (by omega)
                  omega
                · rw [hρd, hlen]
                  rcases hor with ⟨rfl, hx0, hc0⟩ | ⟨g, rfl, hM, h5, h6, cur, hh', h7, h8⟩
                  · subst hx0; subst hc0
                    have : n.toNat = 0 := by simp at hC2; omega
                    rw [this]; exact .inl ⟨rfl, rfl⟩
                  · refine .inr ⟨g, c, cur, rfl, hM, hh', by omega, h6, h7, ?_⟩
                    have : n.toNat * t.w ≤ xs.length * t.w := Nat.mul_le_mul_right _ (by omega)
                    rw [← h8, List.take_take, Nat.min_eq_left this])
              (fun hB hF => absurd hidB (by simp only [Tab.mayMove, hF, Bool.or_false, decide_eq_true_eq]; omega))
            have q3 := q2.put (d := d) (by rw [h.size]; exact Tab.ok_lt hdN) (v := .l (.ownS id)) (val := .slice p n.toNat c) ⟨q1.symm, _, _, _, rfl⟩
            exact h.next hdN (KeepsOthers.refl _) h.below q3
          · cases he
        · cases he
      · cases he
    · split at he
      · rename_i C' v' hp
        cases he
        have hf' := hf.frozenAt h.others x
        obtain ⟨r, h1, h2⟩ := run_slice hT hf' hp hC
        refine wp_of_value (hexec h1) (hK _ _ ?_)
        rw [hd]
        have q3 := hf'.put (d := d) (by rw [h.size]; exact Tab.ok_lt hdN) h2
        exact h.next hdN (KeepsOthers.refl _) h.below q3
      · cases he
  · cases he

/-- Letters of a text as a new slice that nobody writes. -/
theorem effOp_convert {X : Cx} (hT : TabOK X.P X.T) {s s' : AState} {a : Act} {w : World} (h : St X s a w) {o : Oper} {d : Nat} {src dst : TypeId} {x : Operand} (hop : o.op = .convert src dst x) (hd : o.dst = some d) (hdN : X.T.ok d = true) {C : Prop} (he : effOp X.T s (some d) (.convert src dst x) = some (C, s')) (hC : C)
    {K : Act → World → Prop} {Q : Exit → Act → World → Prop} (hK : ∀ a' w', St X s' a' w' → K a' w') : o.wpIn (fw X.r) 2 X.P a w K Q := by
  obtain ⟨ρ, hf⟩ := h.fits
  simp only [effOp] at he
  split at he
  case h_2 => cases he
  rename_i d' l hd' hx hs hdt
  cases hd'
  split at he
  case isFalse => cases he
  rename_i hu8
  cases he
  obtain ⟨E, hu2, hE⟩ := u8_ok hT hu8
  obtain ⟨_, d1, -, hu1, -, -, -, e1⟩ := hT.types _ _ hs
  have e1 : d1 = _ := e1
  subst e1
  have hv := str_val (leaf_ok hf hx)
  obtain ⟨cap, hcap⟩ : ∃ c, c = grownCap w l.length 0 E := ⟨_, rfl⟩
  have hc1 : l.length ≤ cap := by rw [hcap]; exact grownCap_ge _ _ _ _
  have hc2 : cap ≤ maxLen := by rw [hcap]; exact grownCap_le_maxLen _ _ _ _ (by unfold maxLen; omega)
  obtain ⟨row, hrow⟩ : ∃ r, r = bytesRow ⟨l.toArray⟩ cap := ⟨_, rfl⟩
  have hrun : (execOp a.eval o).run X.P w = .ok (.value (.slice (some ⟨w.heap.size, 0, none⟩) l.length cap)) (w.drew.alloc (.cells row E (row.size, row.size + 1))) := by
    unfold execOp; rw [hop]
    dsimp only
    rw [hv]
    have := run_bytes_of_string (P := X.P) w src dst E ⟨l.toArray⟩ hu1 hu2 hE
    have e : (⟨l.toArray⟩ : ByteArray).size = l.length := by simp [ByteArray.size]
    rw [e, ← hcap, ← hrow] at this
    exact run_value this
  have hkeep : ∀ k, k < w.heap.size → (w.drew.alloc (.cells row E (row.size, row.size + 1))).heap[k]? = w.heap[k]? := fun k hk => alloc_keep w.drew _ k hk
  have hH : ¬ hot X.O ρ s.own w.heap.size := fun hh => Nat.lt_irrefl _ (hf.hot_lt h.others h.below hh)
  have hf2 := hf.keep hkeep
  have hrep : RepL (hot X.O ρ s.own) (w.drew.alloc (.cells row E (row.size, row.size + 1))) ρ (.z (.slice (.int .u8)) (bytesOf l)) (.slice (some ⟨w.heap.size, 0, none⟩) l.length cap) := by
    refine ⟨rfl, .inr ⟨w.heap.size, 0, none, cap, (bytesOf l).map (Value.int .u8), ?_, fun _ => rfl, by simpa [bytesOf] using hc1, hc2, ?_, fun _ => hH, fun j hj => ?_⟩⟩
    · simp [Value.cells, bytesOf]
    · have : ∀ xs : List Int, repL (fun c (y : Int) => (Ty.int .u8).rep (hot X.O ρ s.own) (w.drew.alloc (.cells row E (row.size, row.size + 1))) c y) (xs.map (Value.int .u8)) xs := by
        intro xs
        induction xs with
        | nil => rfl
        | cons x xs ih => exact ⟨[.int .u8 x], xs.map (Value.int .u8), rfl, rfl, ih⟩
      exact this _
    · have hj' : j < l.length := by simpa [bytesOf] using hj
      rw [Nat.zero_add, cell_of_row _ _ j row E (row.size, row.size + 1) (by exact heap_alloc_new w.drew _)]
      rw [hrow]
      simp [bytesRow, bytesOf, Array.getElem?_append, hj']
  refine wp_of_value hrun (hK _ _ ?_)
  rw [hd]
  exact h.next hdN (KeepsOthers.trans (B := w.drew) ⟨Nat.le_refl _, fun _ _ h _ => h⟩ (KeepsOthers.alloc w.drew _)) ((h.below.drew).alloc _) (hf2.put (d := d) (by rw [h.size]; exact Tab.ok_lt hdN) hrep)

end Go.Cm
end

section
/- The machine is right: calls under contracts; every operation. -/
namespace Go.Cm
open Go.RowKit

/-- What a call hands back: pure data, arrays that nobody else knows, functions. -/
def RepR (H : Nat → Prop) (w : World) (base : Nat) : RV → Value → Prop
  | .z t x, v => RepL H w (fun _ => undef) (.z t x) v
  | .own t T xs, v => (∃ a n c, v = .slice a n c) ∧ ∃ cells, repL (fun c x => t.rep H w c x) cells xs ∧ rowAt (fun b => base ≤ b) w T t.w v xs.length cells
  | .fn f caps, v => RepL H w (fun _ => undef) (.fn f caps) v
  | .val u, v => v = u

def RV.isOwn : RV → Bool
  | .own .. => true
  | _ => false

/-- The hot blocks of a caller, and those of the arrays handed back. -/
def hotR (O : Nat → Prop) : List RV → List Value → Nat → Prop
  | r :: rs, v :: vs, b => (r.isOwn = true ∧ Blk v b) ∨ hotR O rs vs b
  | _, _, b => O b

def apartR : List RV → List Value → Prop
  | r :: rs, v :: vs => (r.isOwn = true → ∀ b, Blk v b → ¬ hotR (fun _ => False) rs vs b) ∧ apartR rs vs
  | _, _ => True

def retV : List Value → Value
  | [v] => v
  | vs => .tuple vs.toArray

/-- What is lent, under the called function's numbers. -/
def ioList : Nat → List OObj → List (Nat × OObj)
  | _, [] => []
  | k, o :: r => (k, o) :: ioList (k + 1) r

def Apart (ρ : Nat → Value) (own : List (Nat × OObj)) : Prop := own.Pairwise fun p q => p.1 ≠ q.1 ∧ ∀ b, Blk (ρ p.1) b → ¬ Blk (ρ q.1) b

/-- The blocks of what is lent. -/
def lentBlk (ρ0 : Nat → Value) (os : List OObj) (b : Nat) : Prop := ∃ p ∈ ioList ioB os, Blk (ρ0 p.1) b

/-- A function meets its contract: at whatever arguments, in whatever memory ('fr': which of the lent arrays it may exchange). -/
def Valid (B : Base) (P : Program) (f : FuncId) (c : Con) (fr : List Nat := []) : Prop :=
  ∀ (args : List LV) (os : List OObj) (C : Prop) (rs : List RV) (os' : List OObj), c args os = some (C, rs, os') → C → ∀ (O : Nat → Prop) (w : World) (vals : Array Value) (ρ0 : Nat → Value), B.On w → (∀ b, lentBlk ρ0 os b → B.n ≤ b) →
    (∀ b, O b → b < w.heap.size) → (∀ b, O b → ¬ lentBlk ρ0 os b) → All2 (RepL (hot O ρ0 (ioList ioB os)) w ρ0) args vals.toList →
    (∀ p ∈ ioList ioB os, OwnOK (hot O ρ0 (ioList ioB os)) w ρ0 (lentBlk ρ0 os) p) → Apart ρ0 (ioList ioB os) →
    Calls P f vals w fun e w' => ∃ (vs : List Value) (ρ1 : Nat → Value), e = .returned (retV vs) ∧ os'.length = os.length ∧ Bel (fun b => w.heap.size ≤ b ∨ lentBlk ρ0 os b) w w' ∧
      (∀ k, ¬ (ioB ≤ k ∧ fr.contains (k - ioB) = true) → ρ1 k = ρ0 k) ∧
      All2 (RepR (hotR (hot O ρ1 (ioList ioB os')) rs vs) w' w.heap.size) rs vs ∧ apartR rs vs ∧
      (∀ p ∈ ioList ioB os', OwnOK (hotR (hot O ρ1 (ioList ioB os')) rs vs) w' ρ1 (fun b => w.heap.size ≤ b ∨ lentBlk ρ0 os b) p) ∧
      Apart ρ1 (ioList ioB os') ∧ ∀ b, lentBlk ρ1 os' b → ¬ hotR (fun _ => False) rs vs b

structure ConsOK (P : Program) (T : Tab) : Prop where
  cons : ∀ f c, get? T.cons f = some c → Valid T.base P f c ((get? T.frees f).getD [])
  body : ∀ f c, get? T.cons f = some c → ∃ fn, P.funcs[f]? = some fn ∧ (fn.name == "runtime.NumGoroutine") = false ∧ fn.body.isNone = false

/-- What is handed back, as data. -/
theorem cold_rep {H H' : Nat → Prop} {w : World} {base : Nat} {t : Ty} {T : TypeId} {xs : List t.D} {v : Value} (h : RepR H w base (.own t T xs) v) (hH : ∀ b, H' b → H b) (hno : ∀ b, Blk v b → ¬ H' b) :
    RepL H' w (fun _ => undef) (.z (.slice t) xs) v := by
  obtain ⟨⟨p, n, c, hv2⟩, cells0, hr0, hrow⟩ := h
  have how : ∀ q ∈ [((0 : Nat), OObj.arr t T xs)], OwnOK H w (fun _ => v) (fun b => base ≤ b) q := by
    intro q hq
    simp only [List.mem_singleton] at hq
    subst hq
    exact ⟨cells0, hr0, hrow⟩
  obtain ⟨hn, cells, hr, hl, hor⟩ := own_val (id := 0) (T := T) (t := t) (xs := xs) how (by simp [get?]) hv2
  subst hn
  refine ⟨by rw [hv2]; rfl, ?_⟩
  rw [hv2]
  rcases hor with ⟨rfl, hx0, rfl⟩ | ⟨g, rfl, hb, h1, h2, cur, hh', h3, h4⟩
  · subst hx0; exact .inl ⟨rfl, rfl⟩
  · exact .inr ⟨g, 0, none, c, cells, rfl, fun _ => rfl, h1, h2, repL_move (fun b _ hb => hH b hb) (Stays.refl _ _) hr, fun _ hg1 => hno g (by rw [hv2]; rfl) hg1, fun j hj => cell_take hh' h4 hj⟩

theorem hotR_cold {O : Nat → Prop} : ∀ (rs : List RV) (vs : List Value) {b : Nat}, hotR O (rs.map RV.cold) vs b → O b
  | r :: rs, v :: vs, b, h => by
    simp only [List.map_cons, hotR] at h
    rcases h with ⟨h, _⟩ | h
    · cases r <;> simp [RV.cold, RV.isOwn] at h
    · exact hotR_cold rs vs h
  | [], _, b, h => by simpa [hotR] using h
  | _ :: _, [], b, h => by simpa [hotR] using h

theorem apartR_cold : ∀ (rs : List RV) (vs : List Value), apartR (rs.map RV.cold) vs
  | r :: rs, v :: vs => ⟨fun h => by cases r <;> simp [RV.cold, RV.isOwn] at h, apartR_cold rs vs⟩
  | [], _ => by simp [apartR]
  | _ :: _, [] => by simp [apartR]

theorem hotR_sub {O : Nat → Prop} : ∀ (rs : List RV) (vs : List Value) {b : Nat}, O b → hotR O rs vs b
  | r :: rs, v :: vs, b, h => .inr (hotR_sub rs vs h)
  | [], _, b, h => by simpa [hotR] using h
  | _ :: _, [], b, h => by simpa [hotR] using h

theorem hotR_split' {O : Nat → Prop} : ∀ (rs : List RV) (vs : List Value) {b : Nat}, hotR O rs vs b ↔ O b ∨ hotR (fun _ => False) rs vs b
  | [], _, b => by simp [hotR]
  | _ :: _, [], b => by simp [hotR]
  | r :: rs, v :: vs, b => by
    simp only [hotR, hotR_split' (O := O) rs vs (b := b)]
    constructor
    · rintro (h | h | h)
      · exact .inr (.inl h)
      · exact .inl h
      · exact .inr (.inr h)
    · rintro (h | h | h)
      · exact .inr (.inl h)
      · exact .inl h
      · exact .inr (.inr h)

theorem RepR_cold {H H' : Nat → Prop} {w : World} {base : Nat} (hH : ∀ b, H' b → H b) : ∀ (rs : List RV) (vs : List Value), (∀ b, hotR (fun _ => False) rs vs b → ¬ H' b) → All2 (RepR H w base) rs vs → All2 (RepR H' w base) (rs.map RV.cold) vs
  | [], [], _, _ => trivial
  | [], _ :: _, _, h => h.elim
  | _ :: _, [], _, h => h.elim
  | r :: rs, v :: vs, hno, h => by
    refine ⟨?_, RepR_cold hH rs vs (fun b hb => hno b (.inr hb)) h.2⟩
    have h1 := h.1
    cases r with
    | own t T xs => exact cold_rep h1 hH (fun b hb => hno b (.inl ⟨rfl, hb⟩))
    | z t x => exact ⟨h1.1, Ty.rep_move (fun b _ hb => hH b hb) (Stays.refl _ _) h1.2⟩
    | val u => exact h1
    | fn f caps => exact RepL_move (x := .fn f caps) (fun b _ hb => hH b hb) (Stays.refl _ _) (fun _ _ => rfl) h1

theorem hotR_base {H : Nat → Prop} {w' : World} {B b : Nat} : ∀ (rs : List RV) (vs : List Value), All2 (RepR H w' B) rs vs → hotR (fun _ => False) rs vs b → B ≤ b
  | [], _, _, hb => hb.elim
  | _ :: _, [], _, hb => hb.elim
  | r :: rs, v :: vs, h, hb => by
    rcases hb with ⟨hb1, hb2⟩ | hb
    · cases r with
      | z t x => simp [RV.isOwn] at hb1
      | fn f caps => simp [RV.isOwn] at hb1
      | val u => simp [RV.isOwn] at hb1
      | own t T xs =>
        obtain ⟨_, cells, _, h2⟩ := h.1
        rcases h2.2 with ⟨q2, _⟩ | ⟨g, cap, cur, e1, e2, _⟩
        · rw [q2] at hb2; simp [Blk] at hb2
        · rw [e1] at hb2; simp [Blk] at hb2; omega
    · exact hotR_base rs vs h.2 hb

theorem valid_cold {B : Base} {P : Program} {f : FuncId} {c : Con} {fr : List Nat} (hv : Valid B P f c fr) : Valid B P f (coldCon c) fr := by
  intro args os C rs os' hc hC O w vals ρ0 hOn hIo hO hOI hargs hown hap
  unfold coldCon at hc
  split at hc
  · rename_i C0 rs0 os0 hc0
    cases hc
    refine (hv args os C rs0 os' hc0 hC O w vals ρ0 hOn hIo hO hOI hargs hown hap).mono ?_
    rintro e w' ⟨vs, ρ1, rfl, hlen, hb, hρ1, hr, -, hio, hap1, hdis⟩
    have hsub : ∀ b, hotR (hot O ρ1 (ioList ioB os')) (rs0.map RV.cold) vs b → hotR (hot O ρ1 (ioList ioB os')) rs0 vs b := fun b h => hotR_sub _ _ (hotR_cold _ _ h)
    refine ⟨vs, ρ1, rfl, hlen, hb, hρ1, RepR_cold hsub _ _ (fun b hbb h => ?_) hr, apartR_cold _ _, fun p hp => ?_, hap1, fun b _ h => hotR_cold _ _ h⟩
    · rcases hotR_cold _ _ h with h | ⟨p, hp, h⟩
      · have := hO b h; have := hotR_base _ _ hr hbb; omega
      · exact hdis b ⟨p, hp, h⟩ hbb
    · exact (hio p hp).move_id (fun b _ h => hsub b h) (Stays.refl _ _) (fun _ _ => rfl)
  · cases hc

theorem ConsOK.at {P : Program} {T : Tab} (h : ConsOK P T) {d : Option Nat} {f : FuncId} {c : Con} (hc : T.conAt d f = some c) : Valid T.base P f c ((get? T.frees f).getD []) := by
  unfold Tab.conAt at hc
  split at hc
  · rename_i c0 h0
    split at hc
    · split at hc
      · cases hc; exact valid_cold (h.cons _ _ h0)
      · cases hc; exact h.cons _ _ h0
    · cases hc; exact h.cons _ _ h0
  · cases hc

theorem ConsOK.bodyAt {P : Program} {T : Tab} (h : ConsOK P T) {d : Option Nat} {f : FuncId} {c : Con} (hc : T.conAt d f = some c) : ∃ fn, P.funcs[f]? = some fn ∧ (fn.name == "runtime.NumGoroutine") = false ∧ fn.body.isNone = false := by
  unfold Tab.conAt at hc
  split at hc
  · rename_i c0 h0; exact h.body _ _ h0
  · cases hc

theorem callArg_ok {X : Cx} {s s' : AState} {a : Act} {w : World} {ρ : Nat → Value} (h : Fits X s a w ρ) (hO : ∀ b, X.O b → ¬ X.M b) {t : TypeId} {x : Operand} {v : LV} (he : callArg X.T s t x = some (v, s')) :
    Fits X s' a w ρ ∧ (∀ b, hot X.O ρ s'.own b → hot X.O ρ s.own b) ∧ RepL (hot X.O ρ s'.own) w ρ v (a.eval x) := by
  have hf := h.frozenAt hO x
  have hsub : ∀ b, hot X.O ρ (frozenAt s x).own b → hot X.O ρ s.own b := by
    intro b hb
    unfold frozenAt at hb
    split at hb
    · rename_i v hv
      have key : ∀ (l : List Nat) (s : AState), hot X.O ρ (s.freezeAll l).own b → hot X.O ρ s.own b := by
        intro l
        induction l with
        | nil => intro s h; exact h
        | cons k l ih =>
          intro s h
          have := ih (s.freeze k) h
          unfold AState.freeze at this
          split at this
          · refine hot_sub (fun p hp => ?_) this
            obtain ⟨u, h1, _⟩ := mem_mapOwn hp
            exact ⟨u, (mem_del.1 h1).1⟩
          · exact this
      exact key _ _ hb
    · exact hb
  unfold callArg at he
  split at he
  · rename_i id hv
    cases he
    exact ⟨hf, hsub, opnd_ok hf hv⟩
  · rename_i f caps hv
    cases he
    exact ⟨hf, hsub, opnd_ok hf hv⟩
  · rename_i u y hv
    cases he
    exact ⟨hf, hsub, opnd_ok hf hv⟩
  · rename_i u hv
    cases he
    exact ⟨hf, hsub, opnd_ok hf hv⟩
  · rename_i cs hv
    split at he
    · rename_i u hu
      split at he
      · rename_i y hy
        cases he
        have q : RepL _ w ρ (.z u y) (a.eval x) := AV.get_ok hy (opnd_ok hf hv)
        exact ⟨hf, hsub, q⟩
      · cases he
    · cases he
  · cases he

theorem lendArg_ok {X : Cx} {s s' : AState} {a : Act} {w : World} {ρ : Nat → Value} (h : Fits X s a w ρ) (hO : ∀ b, X.O b → ¬ X.M b) {io : Bool} {t : TypeId} {x : Operand} {v : LV} (he : lendArg X.T io s t x = some (v, s')) :
    Fits X s' a w ρ ∧ (∀ b, hot X.O ρ s'.own b → hot X.O ρ s.own b) ∧ RepL (hot X.O ρ s'.own) w ρ v (a.eval x) := by
  unfold lendArg at he
  split at he
  · rename_i id hx; cases he; exact ⟨h, fun _ h => h, opnd_ok h hx⟩
  · rename_i id wd i hx; cases he; exact ⟨h, fun _ h => h, opnd_ok h hx⟩
  · exact callArg_ok h hO he

theorem callArgs_ok {X : Cx} {a : Act} {w : World} {ρ : Nat → Value} (hO : ∀ b, X.O b → ¬ X.M b) (io : List Nat) : ∀ (xs : List Operand) (ts : List TypeId) (k : Nat) {s s' : AState} {vs : List LV}, Fits X s a w ρ → callArgs X.T io k s ts xs = some (vs, s') →
    Fits X s' a w ρ ∧ (∀ b, hot X.O ρ s'.own b → hot X.O ρ s.own b) ∧ All2 (RepL (hot X.O ρ s'.own) w ρ) vs (xs.map a.eval)
  | [], ts, k, s, s', vs, h, he => by simp [callArgs] at he; obtain ⟨rfl, rfl⟩ := he; exact ⟨h, fun _ h => h, trivial⟩
  | x :: xs, [], k, s, s', vs, h, he => by simp [callArgs] at he
  | x :: xs, t :: ts, k, s, s', vs, h, he => by
    simp only [callArgs] at he
    split at he
    · rename_i v s1 hv
      split at he
      · rename_i vs' s2 hvs
        cases he
        obtain ⟨g1, g2, g3⟩ := lendArg_ok h hO hv
        obtain ⟨k1, k2, k3⟩ := callArgs_ok hO io xs ts (k + 1) g1 hvs
        exact ⟨k1, fun b hb => g2 b (k2 b hb), RepL_move (fun b _ hb => k2 b hb) (Stays.refl _ _) (fun _ _ => rfl) g3, k3⟩
      · cases he
    · cases he

theorem Fits.kill {X : Cx} {s : AState} {a : Act} {w : World} {ρ : Nat → Value} (h : Fits X s a w ρ) (d : Nat) : Fits X (s.kill d) a w ρ := by
  have hsub : ∀ p ∈ mapOwn (LV.kill d) (del s.own d), ∃ o, (p.1, o) ∈ s.own := fun p hp => by
    obtain ⟨u, h1, _⟩ := mem_mapOwn hp
    exact ⟨u, (mem_del.1 h1).1⟩
  have hh : ∀ b, b < w.heap.size → hot X.O ρ (mapOwn (LV.kill d) (del s.own d)) b → hot X.O ρ s.own b := fun b _ hb => hot_sub hsub hb
  have hs := Stays.refl (hot X.O ρ s.own) w
  have hk : ∀ x v, RepL (hot X.O ρ s.own) w ρ x v → RepL (hot X.O ρ (mapOwn (LV.kill d) (del s.own d))) w ρ (x.kill d) v := fun x v hx => RepL_kill hh hs (fun _ _ => rfl) hx
  refine h.env_map hk (fun p hp => ?_) (fun p hp hB hF => by obtain ⟨o, ho⟩ := hsub p hp; exact h.io (p.1, o) ho hB hF) ?_
  · obtain ⟨u, h1, h2⟩ := mem_mapOwn hp
    have := (h.own _ (mem_del.1 h1).1).move (f := LV.kill d) (ρ' := ρ) hh hs hk rfl (fun _ _ => rfl)
    rw [← h2] at this
    exact this
  · exact pairwise_mapOwn (fun i j => i ≠ j ∧ ∀ b, Blk (ρ i) b → ¬ Blk (ρ j) b) (pairwise_del (fun i j => i ≠ j ∧ ∀ b, Blk (ρ i) b → ¬ Blk (ρ j) b) h.apart)

theorem kill_isOf (d i : Nat) (x : LV) : (x.kill d).isOf i = true → x.isOf i = true ∧ i ≠ d := by
  unfold LV.kill
  split
  · intro h; simp [LV.isOf] at h
  · rename_i hno
    intro h
    exact ⟨h, fun e => hno (e ▸ h)⟩

def LV.clear (ds : Nat → Prop) (x : LV) : Prop := ∀ i, ds i → x.isOf i = false
def AV.clear (ds : Nat → Prop) : AV → Prop
  | .l x => x.clear ds
  | .agg cs => ∀ c ∈ cs, c.clear ds
  | .tup xs => ∀ x ∈ xs, x.clear ds
  | .g _ x => x.clear ds
  | .gt _ xs => ∀ x ∈ xs, x.clear ds
def OObj.clear (ds : Nat → Prop) : OObj → Prop
  | .box _ cs => ∀ c ∈ cs, c.clear ds
  | .arr _ _ _ => True
  | .win _ _ _ _ _ => True
  | .mat _ _ _ _ _ => True
  | .que _ _ _ => True
def AState.clear (ds : Nat → Prop) (s : AState) : Prop := (∀ e ∈ s.env, e.2.clear ds) ∧ ∀ p ∈ s.own, ¬ ds p.1 ∧ p.2.clear ds

theorem LV.clear_kill {ds : Nat → Prop} {x : LV} (h : x.clear ds) (d : Nat) : (x.kill d).clear fun i => i = d ∨ ds i := by
  intro i hi
  cases hk : (x.kill d).isOf i with
  | false => rfl
  | true =>
    obtain ⟨h1, h2⟩ := kill_isOf d i x hk
    rcases hi with hi | hi
    · exact absurd hi h2
    · rw [h i hi] at h1; cases h1

theorem AState.clear_kill {ds : Nat → Prop} {s : AState} (h : s.clear ds) (d : Nat) : (s.kill d).clear fun i => i = d ∨ ds i := by
  constructor
  · intro e he
    obtain ⟨v, h1, h2⟩ := mem_mapEnv he
    have hv := h.1 _ h1
    rw [h2]
    cases v with
    | l x => exact LV.clear_kill hv d
    | agg cs => intro c hc; obtain ⟨c', h3, rfl⟩ := List.mem_map.1 hc; exact LV.clear_kill (hv c' h3) d
    | tup xs => intro c hc; obtain ⟨c', h3, rfl⟩ := List.mem_map.1 hc; exact LV.clear_kill (hv c' h3) d
    | g φ x => exact LV.clear_kill hv d
    | gt φ xs => intro c hc; obtain ⟨c', h3, rfl⟩ := List.mem_map.1 hc; exact LV.clear_kill (hv c' h3) d
  · intro p hp
    obtain ⟨o, h1, h2⟩ := mem_mapOwn hp
    have h3 := mem_del.1 h1
    refine ⟨fun hi => hi.elim (fun e => h3.2 e) (fun e => (h.2 _ h3.1).1 e), ?_⟩
    have ho := (h.2 _ h3.1).2
    rw [h2]
    cases o with
    | box T cs => intro c hc; obtain ⟨c', h3, rfl⟩ := List.mem_map.1 hc; exact LV.clear_kill (ho c' h3) d
    | arr t T xs => trivial
    | win t T pre xs post => trivial
    | mat t T E rows idx => trivial
    | que t T xs => trivial

theorem killAll_ok {X : Cx} {a : Act} {w : World} {ρ : Nat → Value} : ∀ (l : List Nat) {s : AState} {ds : Nat → Prop}, Fits X s a w ρ → s.clear ds → Fits X (killAll s l) a w ρ ∧ (killAll s l).clear fun i => i ∈ l ∨ ds i
  | [], s, ds, h, hc => ⟨h, by simpa [killAll] using hc⟩
  | d :: l, s, ds, h, hc => by
    obtain ⟨g1, g2⟩ := killAll_ok l (h.kill d) (AState.clear_kill hc d)
    refine ⟨g1, ?_⟩
    have : (fun i => i ∈ l ∨ i = d ∨ ds i) = (fun i => i ∈ d :: l ∨ ds i) := by
      funext i; simp only [List.mem_cons, eq_iff_iff]
      constructor
      · rintro (h | h | h)
        · exact .inl (.inr h)
        · exact .inl (.inl h)
        · exact .inr h
      · rintro ((h | h) | h)
        · exact .inr (.inl h)
        · exact .inl h
        · exact .inr (.inr h)
    rwa [← this]

theorem RepL_clear {H H' : Nat → Prop} {w w' : World} {ρ ρ' : Nat → Value} {ds : Nat → Prop} (hh : ∀ b, b < w.heap.size → H' b → H b) (hs : Stays H w w') (hρ : ∀ i, ¬ ds i → ρ' i = ρ i) {x : LV} (hc : x.clear ds) {v : Value} (h : RepL H w ρ x v) : RepL H' w' ρ' x v :=
  RepL_move hh hs (fun i hi => hρ i (fun hd => by rw [hc i hd] at hi; cases hi)) h

theorem All2.and_mem {α β : Type} {R R' : α → β → Prop} {p : α → Prop} (hf : ∀ a b, p a → R a b → R' a b) : ∀ {l1 : List α} {bs : List β}, (∀ a ∈ l1, p a) → All2 R l1 bs → All2 R' l1 bs :=
  fun hp h => h.imp (fun a b ha hr => hf a b (hp a ha) hr)

/-- What a function has captured names nothing, where it is told without names. -/
theorem RepL_undef {H : Nat → Prop} {w : World} {ρ : Nat → Value} {f : FuncId} {caps : List CV} {v : Value} (h : RepL H w (fun _ => undef) (.fn f caps) v) : RepL H w ρ (.fn f caps) v := by
  obtain ⟨vs, hv, h⟩ := h
  refine ⟨vs, hv, ?_⟩
  clear hv
  induction caps generalizing vs with
  | nil => cases vs with
    | nil => trivial
    | cons _ _ => exact h.elim
  | cons c caps ih => cases vs with
    | nil => exact h.elim
    | cons u vs =>
      refine ⟨?_, ih vs h.2⟩
      have h1 := h.1
      cases c with
      | z t y => exact h1
      | p id => obtain ⟨b, hb, _⟩ := h1; simp [undef] at hb

/-- The results' own arrays, as the state names them from number 'i' on. -/
theorem give_env {H : Nat → Prop} {w : World} {base : Nat} (ρ : Nat → Value) : ∀ (rs : List RV) (vs : List Value) (i : Nat), All2 (RepR H w base) rs vs → (∀ k (_ : k < vs.length), (∃ r, rs[k]? = some r ∧ r.isOwn = true) → ρ (i + k) = vs[k]) → All2 (RepL H w ρ) (giveAll i rs).1 vs
  | [], [], _, _, _ => trivial
  | r :: rs, v :: vs, i, h, hρ => by
    have h0 := hρ 0 (by simp)
    simp only [Nat.add_zero, List.getElem_cons_zero] at h0
    refine ⟨?_, give_env ρ rs vs (i + 1) h.2 (fun k hk ho => by
      have := hρ (k + 1) (by simpa using hk) (by simpa using ho)
      simp only [List.getElem_cons_succ] at this
      rw [← this]; congr 1; omega)⟩
    cases r with
    | z t x => exact h.1
    | own t T xs =>
      obtain ⟨⟨a, n, c, hv⟩, _⟩ := h.1
      exact ⟨(h0 ⟨_, rfl, rfl⟩).symm, a, n, c, hv⟩
    | fn f caps => exact RepL_undef h.1
    | val u => exact h.1
  | [], _ :: _, _, h, _ => h.elim
  | _ :: _, [], _, h, _ => h.elim

theorem give_own {H : Nat → Prop} {w : World} {base : Nat} {M : Nat → Prop} (hbb : ∀ b, base ≤ b → M b) (ρ : Nat → Value) : ∀ (rs : List RV) (vs : List Value) (i : Nat), All2 (RepR H w base) rs vs → (∀ k (_ : k < vs.length), (∃ r, rs[k]? = some r ∧ r.isOwn = true) → ρ (i + k) = vs[k]) → ∀ p ∈ (giveAll i rs).2, (∃ k, k < vs.length ∧ p.1 = i + k) ∧ OwnOK H w ρ M p ∧ ∀ b, Blk (ρ p.1) b → base ≤ b ∧ hotR (fun _ => False) rs vs b
  | [], [], _, _, _, p, hp => by simp [giveAll] at hp
  | r :: rs, v :: vs, i, h, hρ, p, hp => by
    have h0 := hρ 0 (by simp)
    simp only [Nat.add_zero, List.getElem_cons_zero] at h0
    simp only [giveAll, List.mem_append] at hp
    rcases hp with hp | hp
    · cases r with
      | z t x => simp [RV.give] at hp
      | fn f caps => simp [RV.give] at hp
      | val u => simp [RV.give] at hp
      | own t T xs =>
        simp [RV.give] at hp
        subst hp
        obtain ⟨⟨a, n, c, hv⟩, cells, h1, h2⟩ := h.1
        have h0 := h0 ⟨_, rfl, rfl⟩
        refine ⟨⟨0, by simp, rfl⟩, ⟨cells, h1, ?_⟩, fun b hb => ?_⟩
        · simp only [h0]
          obtain ⟨q1, q2⟩ := h2
          refine ⟨q1, ?_⟩
          rcases q2 with q2 | ⟨g, cap, cur, e1, e2, e3⟩
          · exact .inl q2
          · exact .inr ⟨g, cap, cur, e1, hbb g e2, e3⟩
        · simp only [h0] at hb
          refine ⟨?_, .inl ⟨rfl, hb⟩⟩
          rcases h2.2 with ⟨q2, _⟩ | ⟨g, cap, cur, e1, e2, _⟩
          · rw [q2] at hb; simp [Blk] at hb
          · rw [e1] at hb; simp [Blk] at hb; omega
    · obtain ⟨⟨k, h1, h2⟩, h3, h4⟩ := give_own hbb ρ rs vs (i + 1) h.2 (fun k hk ho => by
        have := hρ (k + 1) (by simpa using hk) (by simpa using ho)
        simp only [List.getElem_cons_succ] at this
        rw [← this]; congr 1; omega) p hp
      exact ⟨⟨k + 1, by simpa using h1, by omega⟩, h3, fun b hb => ⟨(h4 b hb).1, .inr (h4 b hb).2⟩⟩
  | [], _ :: _, _, h, _, _, _ => h.elim
  | _ :: _, [], _, h, _, _, _ => h.elim

theorem give_apart {H : Nat → Prop} {w : World} {base : Nat} (ρ : Nat → Value) : ∀ (rs : List RV) (vs : List Value) (i : Nat), All2 (RepR H w base) rs vs → apartR rs vs → (∀ k (_ : k < vs.length), (∃ r, rs[k]? = some r ∧ r.isOwn = true) → ρ (i + k) = vs[k]) → (giveAll i rs).2.Pairwise fun p q => p.1 ≠ q.1 ∧ ∀ b, Blk (ρ p.1) b → ¬ Blk (ρ q.1) b
  | [], [], _, _, _, _ => .nil
  | r :: rs, v :: vs, i, h, ha, hρ => by
    have h0 := hρ 0 (by simp)
    simp only [Nat.add_zero, List.getElem_cons_zero] at h0
    have hρ' : ∀ k (_ : k < vs.length), (∃ r, rs[k]? = some r ∧ r.isOwn = true) → ρ (i + 1 + k) = vs[k] := fun k hk ho => by
      have := hρ (k + 1) (by simpa using hk) (by simpa using ho)
      simp only [List.getElem_cons_succ] at this
      rw [← this]; congr 1; omega
    have ih := give_apart ρ rs vs (i + 1) h.2 ha.2 hρ'
    cases r with
    | z t x => simpa [giveAll, RV.give] using ih
    | fn f caps => simpa [giveAll, RV.give] using ih
    | val u => simpa [giveAll, RV.give] using ih
    | own t T xs =>
      simp only [giveAll, RV.give, List.singleton_append]
      rw [List.pairwise_cons]
      refine ⟨fun q hq => ?_, ih⟩
      obtain ⟨⟨k, _, h2⟩, _, h4⟩ := give_own (M := fun b => base ≤ b) (fun _ h => h) ρ rs vs (i + 1) h.2 hρ' q hq
      refine ⟨by omega, fun b hb hqb => ?_⟩
      rw [h0 ⟨_, rfl, rfl⟩] at hb
      exact ha.1 rfl b hb (h4 b hqb).2
  | [], _ :: _, _, h, _, _ => h.elim
  | _ :: _, [], _, h, _, _ => h.elim

theorem hotR_split {O : Nat → Prop} : ∀ (rs : List RV) (vs : List Value) {b : Nat}, hotR O rs vs b ↔ O b ∨ hotR (fun _ => False) rs vs b
  | r :: rs, v :: vs, b => by
    simp only [hotR]
    rw [hotR_split rs vs]
    constructor
    · rintro (h | h | h)
      · exact .inr (.inl h)
      · exact .inl h
      · exact .inr (.inr h)
    · rintro (h | h | h)
      · exact .inr (.inl h)
      · exact .inl h
      · exact .inr (.inr h)
  | [], _, b => by simp [hotR]
  | _ :: _, [], b => by simp [hotR]

theorem RepR_hot {H H' : Nat → Prop} {w : World} {base : Nat} (hh : ∀ b, b < w.heap.size → H' b → H b) {r : RV} {v : Value} (h : RepR H w base r v) : RepR H' w base r v := by
  cases r with
  | z t x => exact ⟨h.1, Ty.rep_move hh (Stays.refl _ _) h.2⟩
  | fn f caps => exact RepL_move (x := .fn f caps) hh (Stays.refl _ _) (fun _ _ => rfl) h
  | val u => exact h
  | own t T xs =>
    obtain ⟨h1, cells, h2, h3⟩ := h
    exact ⟨h1, cells, repL_move hh (Stays.refl _ _) h2, h3⟩

theorem RepV_clear {H H' : Nat → Prop} {w w' : World} {ρ ρ' : Nat → Value} {ds : Nat → Prop} (hh : ∀ b, b < w.heap.size → H' b → H b) (hs : Stays H w w') (hρ : ∀ i, ¬ ds i → ρ' i = ρ i) {x : AV} (hc : x.clear ds) {v : Value} (h : RepV H w ρ x v) : RepV H' w' ρ' x v := by
  cases x with
  | l x => exact RepL_clear hh hs hρ hc h
  | agg cs => obtain ⟨vs, e, h⟩ := h; exact ⟨vs, e, h.and_mem (p := LV.clear ds) (fun _ _ hc hr => ⟨RepL_clear hh hs hρ hc hr.1, hr.2⟩) hc⟩
  | tup xs => obtain ⟨vs, e, h⟩ := h; exact ⟨vs, e, h.and_mem (p := LV.clear ds) (fun _ _ hc hr => RepL_clear hh hs hρ hc hr) hc⟩
  | g φ x => exact ⟨fun hφ => RepL_clear hh hs hρ hc (h.1 hφ), h.2⟩
  | gt φ xs => exact ⟨fun hφ => by obtain ⟨vs, e, h⟩ := h.1 hφ; exact ⟨vs, e, h.and_mem (p := LV.clear ds) (fun _ _ hc hr => RepL_clear hh hs hρ hc hr) hc⟩, h.2⟩

theorem OwnOK_clear {H H' : Nat → Prop} {w w' : World} {ρ ρ' : Nat → Value} {M : Nat → Prop} {ds : Nat → Prop} {p : Nat × OObj} (hh : ∀ b, b < w.heap.size → H' b → H b) (hs : Stays H w w') (hρ : ∀ i, ¬ ds i → ρ' i = ρ i) (hc : ¬ ds p.1 ∧ p.2.clear ds) (hk : ∀ k, k < w.heap.size → w'.heap[k]? = w.heap[k]?) (h : OwnOK H w ρ M p) : OwnOK H' w' ρ' M p := by
  have hlt := fun b (hb : Blk (ρ p.1) b) => (h.lt hb).2
  obtain ⟨id, obj⟩ := p
  have hr : ρ' id = ρ id := hρ id hc.1
  cases obj with
  | box T cs =>
    obtain ⟨g, vs, h1, h2, h3, h4⟩ := h
    exact ⟨g, vs, by rw [hr]; exact h1, h2, by rw [hk g (hlt g (by simp only [h1]; rfl))]; exact h3, h4.and_mem (p := LV.clear ds) (fun _ _ hc hr => ⟨RepL_clear hh hs hρ hc hr.1, hr.2⟩) hc.2⟩
  | arr t T xs =>
    obtain ⟨cells, h1, h2, h3⟩ := h
    refine ⟨cells, repL_move hh hs h1, h2, ?_⟩
    rw [hr]
    rcases h3 with h3 | ⟨g, cap, cur, h3, h4, h5, h6⟩
    · exact .inl h3
    · exact .inr ⟨g, cap, cur, h3, h4, by rw [hk g (hlt g (by simp only [h3]; rfl))]; exact h5, h6⟩
  | win t T pre xs post =>
    obtain ⟨g, cap, cells, cur, h1, h3, h4, h5, h6⟩ := h
    exact ⟨g, cap, cells, cur, repL_move hh hs h1, by rw [hr]; exact h3, h4, by rw [hk g (hlt g (by simp only [h3]; rfl))]; exact h5, h6⟩
  | mat t T E rows idx =>
    have := h.move (f := _root_.id) (ρ' := fun i => if i = id then ρ id else ρ i) hh hs (fun x v hx => RepL_move hh hs (fun i _ => by
      by_cases e : i = id
      · subst e; simp
      · simp [e]) hx) (by simp) (fun b hb => hk b (hlt b hb))
    obtain ⟨h0, vs, cells, h1, h2⟩ := this
    exact ⟨h0, vs, cells, by rw [hr]; simpa using h1, h2⟩
  | que t T xs =>
    have hM : ∀ b, Blk (ρ id) b → M b := fun b hb => (OwnOK.lt h hb).1
    obtain ⟨cells, h1, h2⟩ := h
    refine ⟨cells, repL_move hh hs h1, ?_⟩
    rw [hr]
    exact queAt_keep h2 fun b e => ⟨hM b e, hk b (hlt b e)⟩

theorem give_ids : ∀ (rs : List RV) (i : Nat), ∀ p ∈ (giveAll i rs).2, p.1 ∈ ownIds i rs
  | [], i, p, h => by simp [giveAll] at h
  | r :: rs, i, p, h => by
    simp only [giveAll, List.mem_append] at h
    cases r with
    | own t T xs =>
      simp only [ownIds, List.mem_cons]
      rcases h with h | h
      · simp [RV.give] at h; exact .inl (by rw [h])
      · exact .inr (give_ids rs (i + 1) p h)
    | z t x => simp only [RV.give, List.not_mem_nil, false_or] at h; exact give_ids rs (i + 1) p h
    | fn f caps => simp only [RV.give, List.not_mem_nil, false_or] at h; exact give_ids rs (i + 1) p h
    | val u => simp only [RV.give, List.not_mem_nil, false_or] at h; exact give_ids rs (i + 1) p h

theorem mem_ownIds : ∀ {rs : List RV} {i k : Nat}, k ∈ ownIds i rs ↔ i ≤ k ∧ ∃ r, rs[k - i]? = some r ∧ r.isOwn = true
  | [], i, k => by simp [ownIds]
  | r :: rs, i, k => by
    have ih := mem_ownIds (rs := rs) (i := i + 1) (k := k)
    have step : (i + 1 ≤ k ∧ ∃ r', rs[k - (i + 1)]? = some r' ∧ r'.isOwn = true) ↔ (i < k ∧ ∃ r', (r :: rs)[k - i]? = some r' ∧ r'.isOwn = true) := by
      constructor
      · rintro ⟨h1, h2⟩
        refine ⟨h1, ?_⟩
        have : k - i = (k - (i + 1)) + 1 := by omega
        rw [this]; simpa using h2
      · rintro ⟨h1, h2⟩
        refine ⟨h1, ?_⟩
        have : k - i = (k - (i + 1)) + 1 := by omega
        rw [this] at h2; simpa using h2
    have key : r.isOwn = false → ((i ≤ k ∧ ∃ r', (r :: rs)[k - i]? = some r' ∧ r'.isOwn = true) ↔ (i < k ∧ ∃ r', (r :: rs)[k - i]? = some r' ∧ r'.isOwn = true)) := by
      intro hr
      refine ⟨fun ⟨h1, h2⟩ => ⟨Nat.lt_of_le_of_ne h1 ?_, h2⟩, fun ⟨h1, h2⟩ => ⟨by omega, h2⟩⟩
      rintro rfl
      obtain ⟨r', h3, h4⟩ := h2
      simp at h3; subst h3; rw [hr] at h4; cases h4
    cases r with
    | own t T xs =>
      simp only [ownIds, List.mem_cons]
      rw [ih, step]
      constructor
      · rintro (rfl | ⟨h1, h2⟩)
        · exact ⟨Nat.le_refl _, _, by rw [Nat.sub_self]; rfl, rfl⟩
        · exact ⟨by omega, h2⟩
      · rintro ⟨h1, h2⟩
        by_cases e : k = i
        · exact .inl e
        · exact .inr ⟨by omega, h2⟩
    | z t x => simp only [ownIds]; rw [ih, step, key rfl]
    | fn f caps => simp only [ownIds]; rw [ih, step, key rfl]
    | val u => simp only [ownIds]; rw [ih, step, key rfl]

/-- The state behind a call ('B': all that was there ahead of it). -/
theorem endCall_ok {X : Cx} {s : AState} {a : Act} {w' : World} {ρ : Nat → Value} {rs : List RV} {vs : List Value} {s0 : AState} {w : World} (h0 : St X s0 a w) (hko : KeepsOthers w w') (hbel : Bel X.M X.w0 w') (hf : Fits { X with O := fun b => X.O b ∨ hotR (fun _ => False) rs vs b } s a w' ρ) {B : Nat} (hB : ∀ b, hot X.O ρ s.own b → ¬ hotR (fun _ => False) rs vs b) (hB0 : X.w0.heap.size ≤ B) {d : Nat} (hdN : X.T.ok d = true)
    (hid : 1000 + 8 * d + rs.length ≤ ioB) (hr : All2 (RepR (hotR (hot X.O ρ s.own) rs vs) w' B) rs vs) (hap : apartR rs vs) : St X (endCall s d rs) (a.put (some d) (retV vs)) w' := by
  have hclear0 : s.clear fun _ => False := by
    constructor
    · intro e _
      have : ∀ x : LV, x.clear fun _ => False := fun x i hi => hi.elim
      cases e.2 with
      | l x => exact this x
      | agg cs => exact fun c _ => this c
      | tup xs => exact fun c _ => this c
      | g φ x => exact this x
      | gt φ xs => exact fun c _ => this c
    · intro p _
      refine ⟨id, ?_⟩
      cases p.2 with
      | box T cs => exact fun c _ i hi => hi.elim
      | arr t T xs => trivial
      | win t T pre xs post => trivial
      | mat t T E rows idx => trivial
      | que t T xs => trivial
  have hlen := hr.length
  obtain ⟨g1, g2⟩ := killAll_ok (ownIds (1000 + 8 * d) rs) hf hclear0
  unfold endCall
  simp only []
  generalize hs2 : killAll s (ownIds (1000 + 8 * d) rs) = s2 at g1 g2
  generalize hi0 : 1000 + 8 * d = i0 at g2 hs2 hid
  let ρ' : Nat → Value := fun i => if i ∈ ownIds i0 rs then vs.getD (i - i0) undef else ρ i
  have hρin : ∀ k (_ : k < vs.length), (∃ r, rs[k]? = some r ∧ r.isOwn = true) → ρ' (i0 + k) = vs[k] := by
    intro k hk ho
    have hc : i0 + k ∈ ownIds i0 rs := mem_ownIds.2 ⟨by omega, by rw [Nat.add_sub_cancel_left]; exact ho⟩
    show (if i0 + k ∈ ownIds i0 rs then vs.getD (i0 + k - i0) undef else ρ (i0 + k)) = vs[k]
    rw [if_pos hc, Nat.add_sub_cancel_left]
    simp [List.getD, hk]
  have hρout : ∀ i, ¬ (i ∈ ownIds i0 rs ∨ False) → ρ' i = ρ i := by
    intro i hi
    show (if i ∈ ownIds i0 rs then vs.getD (i - i0) undef else ρ i) = ρ i
    rw [if_neg (fun h => hi (.inl h))]
  have hsub2 : ∀ b, hot X.O ρ s2.own b → hot X.O ρ s.own b := by
    intro b hb
    rw [← hs2] at hb
    have key : ∀ (l : List Nat) (s : AState), hot X.O ρ (killAll s l).own b → hot X.O ρ s.own b := by
      intro l
      induction l with
      | nil => intro s h; exact h
      | cons k l ih =>
        intro s h
        refine hot_sub (fun p hp => ?_) (ih (s.kill k) h)
        obtain ⟨u, h1, _⟩ := mem_mapOwn hp
        exact ⟨u, (mem_del.1 h1).1⟩
    exact key _ _ hb
  have hown := give_own (H := hotR (hot X.O ρ s.own) rs vs) (w := w') (base := B) (M := X.M) (fun b hb => .inl (Nat.le_trans hB0 hb)) ρ' rs vs i0 hr hρin
  have hH : ∀ b, hot X.O ρ' ((giveAll i0 rs).2 ++ s2.own) b → hotR (hot X.O ρ s2.own) rs vs b := by
    intro b hh
    rw [hotR_split]
    rcases hh with hh | ⟨p, hp, hpb⟩
    · exact .inl (.inl hh)
    · rcases List.mem_append.1 hp with hp | hp
      · exact .inr ((hown p hp).2.2 b hpb).2
      · rw [hρout _ (g2.2 p hp).1] at hpb
        exact .inl (.inr ⟨p, hp, hpb⟩)
  have hH' : ∀ b, hot X.O ρ' ((giveAll i0 rs).2 ++ s2.own) b → hotR (hot X.O ρ s.own) rs vs b := by
    intro b hh
    have := hH b hh
    rw [hotR_split] at this ⊢
    exact this.imp (hsub2 b) _root_.id
  have hr' := hr.imp (R' := RepR (hot X.O ρ' ((giveAll i0 rs).2 ++ s2.own)) w' B) (fun r v _ hrv => RepR_hot (fun b _ hb => hH' b hb) hrv)
  -- what the state tells avoids the blocks of the results: they are new
  have hnew : ∀ b, hotR (fun _ => False) rs vs b → B ≤ b := by
    intro b hb
    have : ∀ {H : Nat → Prop} (rs : List RV) (vs : List Value), All2 (RepR H w' B) rs vs → hotR (fun _ => False) rs vs b → B ≤ b := by
      intro H rs
      induction rs with
      | nil => intro vs _ hb; exact hb.elim
      | cons r rs ih =>
        intro vs h hb
        cases vs with
        | nil => exact hb.elim
        | cons v vs =>
          rcases hb with ⟨hb1, hb2⟩ | hb
          · cases r with
            | z t x => simp [RV.isOwn] at hb1
            | fn f caps => simp [RV.isOwn] at hb1
            | val u => simp [RV.isOwn] at hb1
            | own t T xs =>
              obtain ⟨_, cells, _, h2⟩ := h.1
              rcases h2.2 with ⟨q2, _⟩ | ⟨g, cap, cur, e1, e2, _⟩
              · rw [q2] at hb2; simp [Blk] at hb2
              · rw [e1] at hb2; simp [Blk] at hb2; omega
          · exact ih vs h.2 hb
    exact this rs vs hr hb
  have hfit : Fits X { env := s2.env, own := (giveAll i0 rs).2 ++ s2.own } a w' ρ' := by
    have hh2 : ∀ b, b < w'.heap.size → hot X.O ρ' ((giveAll i0 rs).2 ++ s2.own) b → hot (fun b => X.O b ∨ hotR (fun _ => False) rs vs b) ρ s2.own b := by
      intro b _ hh
      have h1 := hH b hh
      rw [hotR_split] at h1
      rcases h1 with (h1 | h1) | h1
      · exact .inl (.inl h1)
      · exact .inr h1
      · exact .inl (.inr h1)
    have hs : Stays (hot (fun b => X.O b ∨ hotR (fun _ => False) rs vs b) ρ s2.own) w' w' := Stays.refl _ _
    refine ⟨fun e he => RepV_clear hh2 hs hρout (g2.1 e he) (g1.env e he), fun p hp => ?_, fun p hp hB hF => ?_, ?_⟩
    · rcases List.mem_append.1 hp with hp | hp
      · exact (give_own (base := B) (M := X.M) (fun b hb => .inl (Nat.le_trans hB0 hb)) ρ' rs vs i0 hr' hρin p hp).2.1
      · exact OwnOK_clear hh2 hs hρout (g2.2 p hp) (fun _ _ => rfl) (g1.own p hp)
    · rcases List.mem_append.1 hp with hp | hp
      · obtain ⟨⟨k, h1, h2⟩, _⟩ := hown p hp
        omega
      · rw [hρout _ (g2.2 p hp).1]
        exact g1.io p hp hB hF
    · rw [List.pairwise_append]
      refine ⟨give_apart ρ' rs vs i0 hr hap hρin, ?_, fun p hp q hq => ?_⟩
      · refine g1.apart.imp_of_mem fun {p q} hp hq hpq => ?_
        rw [hρout _ (g2.2 p hp).1, hρout _ (g2.2 q hq).1]
        exact hpq
      · obtain ⟨⟨k, h1, h2⟩, _, h4⟩ := hown p hp
        have hq2 := (g2.2 q hq).1
        refine ⟨fun e => hq2 (.inl ?_), fun b hpb hqb => ?_⟩
        · rw [← e]; exact give_ids rs i0 p hp
        rw [hρout _ hq2] at hqb
        exact hB b (hsub2 b (hot_blk hq hqb)) (h4 b hpb).2
  have henv := give_env ρ' rs vs i0 hr' hρin
  have hval : RepV (hot X.O ρ' ((giveAll i0 rs).2 ++ s2.own)) w' ρ' (match (giveAll i0 rs).1 with
      | [x] => AV.l x
      | l => AV.tup l) (retV vs) := by
    generalize (giveAll i0 rs).1 = l at henv
    match l, vs, henv with
    | [], [], henv => exact ⟨[], rfl, henv⟩
    | [x], [v], henv => exact henv.1
    | x :: y :: l, v :: u :: vs, henv => exact ⟨v :: u :: vs, rfl, henv⟩
  have hput := hfit.put (d := d) (by rw [h0.size]; exact Tab.ok_lt hdN) hval
  exact h0.next hdN hko hbel hput

/-! ### Lending -/
theorem lentAt_ok : ∀ {l : List Lent} {k n : Nat} {x : Lent}, lentAt l k x = some n → k ≤ n ∧ l[n - k]? = some x
  | i :: r, k, n, x, h => by
    simp only [lentAt] at h
    split at h
    · rename_i e; subst e; cases h; exact ⟨Nat.le_refl _, by simp⟩
    · obtain ⟨h1, h2⟩ := lentAt_ok h
      refine ⟨by omega, ?_⟩
      have : n - k = (n - (k + 1)) + 1 := by omega
      rw [this, List.getElem?_cons_succ, h2]

/-- The header or address under which a thing is lent. -/
def hdr (ρ : Nat → Value) : Lent → Value
  | (id, none) => ρ id
  | (id, some (w, i)) => match ρ id with
    | .slice (some a) n c => .slice (some ⟨a.block, i * w, none⟩) (n - i) (c - i)
    | _ => undef

def lentρ (ρ : Nat → Value) (l : List Lent) (k : Nat) : Value := match l[k - ioB]? with
  | some x => hdr ρ x
  | none => undef

theorem RepCV_ren {H : Nat → Prop} {w : World} {ρ : Nat → Value} {l : List Lent} {c c' : CV} (he : c.ren l = some c') {v : Value} (h : RepCV H w ρ c v) : RepCV H w (lentρ ρ l) c' v := by
  cases c with
  | z t x => simp [CV.ren] at he; subst he; exact h
  | p id =>
    simp only [CV.ren] at he
    split at he
    · rename_i k hk
      cases he
      obtain ⟨_, h2⟩ := lentAt_ok hk
      simp only [RepCV, lentρ, h2, hdr]
      exact h
    · cases he

theorem capsRen_ok {H : Nat → Prop} {w : World} {ρ : Nat → Value} {l : List Lent} : ∀ {cs cs' : List CV} {vs : List Value}, capsRen l cs = some cs' → All2 (RepCV H w ρ) cs vs → All2 (RepCV H w (lentρ ρ l)) cs' vs
  | [], _, [], he, _ => by simp [capsRen] at he; subst he; trivial
  | [], _, _ :: _, _, h => h.elim
  | _ :: _, _, [], _, h => h.elim
  | c :: cs, cs', v :: vs, he, h => by
    simp only [capsRen] at he
    split at he
    · rename_i c1 r1 h1 h2
      cases he
      exact ⟨RepCV_ren h1 h.1, capsRen_ok h2 h.2⟩
    · cases he

theorem RepL_ren {H : Nat → Prop} {w : World} {ρ : Nat → Value} {l : List Lent} {x : LV} {v : Value} (h : RepL H w ρ x v) : RepL H w (lentρ ρ l) (x.ren l) v := by
  cases x with
  | z t x => exact h
  | val u => exact h
  | ownP id off =>
    simp only [LV.ren]
    split
    · rename_i k hk
      obtain ⟨_, h2⟩ := lentAt_ok hk
      simp only [RepL, lentρ, h2, hdr]; exact h
    · trivial
  | ownS id =>
    simp only [LV.ren]
    split
    · rename_i k hk
      obtain ⟨_, h2⟩ := lentAt_ok hk
      simp only [RepL, lentρ, h2, hdr]; exact h
    · trivial
  | ownW id wd i =>
    simp only [LV.ren]
    split
    · rename_i k hk
      obtain ⟨_, h2⟩ := lentAt_ok hk
      obtain ⟨b, n, c, h3, h4, h5⟩ := h
      simp only [RepL, lentρ, h2, hdr, h3]
      exact ⟨h5, _, _, _, h5⟩
    · trivial
  | ownM id =>
    simp only [LV.ren]
    split
    · rename_i k hk
      obtain ⟨_, h2⟩ := lentAt_ok hk
      simp only [RepL, lentρ, h2, hdr]; exact h
    · trivial
  | ownR id j =>
    simp only [LV.ren]
    split
    · rename_i k hk
      obtain ⟨_, h2⟩ := lentAt_ok hk
      simp only [RepL, lentρ, h2, hdr]; exact h
    · trivial
  | ownA => trivial
  | ownB => trivial
  | fn f caps =>
    simp only [LV.ren]
    split
    · rename_i cs hcs
      obtain ⟨vs, hv, h⟩ := h
      exact ⟨vs, hv, capsRen_ok hcs h⟩
    · trivial
  | ownE => trivial
  | junk => trivial

theorem backAt_ok {l : List Lent} {k id : Nat} (h : backAt l k = some id) : l[k - ioB]? = some (id, none) := by
  unfold backAt at h
  split at h
  · cases h
  · split at h
    · rename_i h2; cases h; exact h2
    · cases h

theorem RepCV_back {H : Nat → Prop} {w : World} {ρ : Nat → Value} {l : List Lent} {c c' : CV} (he : c.back l = some c') {v : Value} (h : RepCV H w (lentρ ρ l) c v) : RepCV H w ρ c' v := by
  cases c with
  | z t x => simp [CV.back] at he; subst he; exact h
  | p id =>
    simp only [CV.back] at he
    split at he
    · rename_i k hk
      cases he
      simp only [RepCV, lentρ, backAt_ok hk, hdr] at h
      exact h
    · cases he

theorem capsBack_ok {H : Nat → Prop} {w : World} {ρ : Nat → Value} {l : List Lent} : ∀ {cs cs' : List CV} {vs : List Value}, capsBack l cs = some cs' → All2 (RepCV H w (lentρ ρ l)) cs vs → All2 (RepCV H w ρ) cs' vs
  | [], _, [], he, _ => by simp [capsBack] at he; subst he; trivial
  | [], _, _ :: _, _, h => h.elim
  | _ :: _, _, [], _, h => h.elim
  | c :: cs, cs', v :: vs, he, h => by
    simp only [capsBack] at he
    split at he
    · rename_i c1 r1 h1 h2
      cases he
      exact ⟨RepCV_back h1 h.1, capsBack_ok h2 h.2⟩
    · cases he

theorem RepL_back {H : Nat → Prop} {w : World} {ρ : Nat → Value} {l : List Lent} {x : LV} {v : Value} (h : RepL H w (lentρ ρ l) x v) : RepL H w ρ (x.back l) v := by
  cases x with
  | z t x => exact h
  | val u => exact h
  | ownP id off =>
    simp only [LV.back]
    split
    · rename_i k hk
      simp only [RepL, lentρ, backAt_ok hk, hdr] at h; exact h
    · trivial
  | ownS id =>
    simp only [LV.back]
    split
    · rename_i k hk
      simp only [RepL, lentρ, backAt_ok hk, hdr] at h; exact h
    · trivial
  | fn f caps =>
    simp only [LV.back]
    split
    · rename_i cs hcs
      obtain ⟨vs, hv, h⟩ := h
      exact ⟨vs, hv, capsBack_ok hcs h⟩
    · trivial
  | ownM id =>
    simp only [LV.back]
    split
    · rename_i k hk
      simp only [RepL, lentρ, backAt_ok hk, hdr] at h; exact h
    · trivial
  | ownR id j =>
    simp only [LV.back]
    split
    · rename_i k hk
      simp only [RepL, lentρ, backAt_ok hk, hdr] at h; exact h
    · trivial
  | ownA => trivial
  | ownB => trivial
  | ownW => trivial
  | ownE => trivial
  | junk => trivial

/-- A thing under another number. -/
theorem OwnOK.moved {H H' : Nat → Prop} {w : World} {ρ ρ' : Nat → Value} {M M' : Nat → Prop} {id k : Nat} {o : OObj} {f : LV → LV} (h : OwnOK H w ρ M (id, o)) (hh : ∀ b, b < w.heap.size → H' b → H b)
    (hf : ∀ x v, RepL H w ρ x v → RepL H' w ρ' (f x) v) (hρ : ρ' k = ρ id) (hM : ∀ b, Blk (ρ id) b → M' b) : OwnOK H' w ρ' M' (k, o.map f) := by
  have hs := Stays.refl H w
  cases o with
  | box T cs =>
    obtain ⟨g, vs, h1, h2, h3, h4⟩ := h
    exact ⟨g, vs, by rw [hρ]; exact h1, hM g (by rw [h1]; rfl), h3, h4.map_left (fun _ _ h => RepC_map hf h)⟩
  | arr t T xs =>
    obtain ⟨cells, h1, h2, h3⟩ := h
    refine ⟨cells, repL_move hh hs h1, h2, ?_⟩
    rw [hρ]
    rcases h3 with h3 | ⟨g, cap, cur, h3, h4, h5, h6⟩
    · exact .inl h3
    · exact .inr ⟨g, cap, cur, h3, hM g (by rw [h3]; rfl), h5, h6⟩
  | win t T pre xs post =>
    obtain ⟨g, cap, cells, cur, hr, h3, h4, h5, h6⟩ := h
    exact ⟨g, cap, cells, cur, repL_move hh hs hr, by rw [hρ]; exact h3, hM g (by rw [h3]; rfl), h5, h6⟩
  | mat t T E rows idx =>
    obtain ⟨h0, vs, cells, h1, h2⟩ := h
    exact ⟨h0, vs, cells, by rw [hρ]; exact h1, h2.move (fun c x h => Ty.rep_move hh hs h) fun u hu b e => ⟨hM b (by rw [h1]; exact ⟨u, hu, e⟩), rfl⟩⟩
  | que t T xs =>
    obtain ⟨cells, h1, h2⟩ := h
    refine ⟨cells, repL_move hh hs h1, ?_⟩
    rw [hρ]
    exact queAt_keep h2 fun b e => ⟨hM b e, rfl⟩

theorem blk_hdr {ρ : Nat → Value} {x : Lent} {b : Nat} (h : Blk (hdr ρ x) b) : Blk (ρ x.1) b := by
  obtain ⟨id, o⟩ := x
  cases o with
  | none => exact h
  | some p =>
    obtain ⟨w, i⟩ := p
    simp only [hdr] at h
    split at h
    · rename_i a n c he
      simp only [he]
      simpa [Blk] using h
    · simp [Blk, undef] at h

/-- A thing as it is lent. -/
theorem lendObj_ok {H H' : Nat → Prop} {w : World} {ρ : Nat → Value} {M M' : Nat → Prop} {own : List (Nat × OObj)} {l : List Lent} (hown : ∀ p ∈ own, OwnOK H w ρ M p) {x : Lent} {o : OObj} (he : lendObj own l x = some o) {k : Nat} (hx : l[k - ioB]? = some x)
    (hh : ∀ b, b < w.heap.size → H' b → H b) (hM : ∀ b, Blk (ρ x.1) b → M' b) : OwnOK H' w (lentρ ρ l) M' (k, o) := by
  obtain ⟨id, q⟩ := x
  have hρ : lentρ ρ l k = hdr ρ (id, q) := by simp only [lentρ, hx]
  cases q with
  | none =>
    simp only [lendObj] at he
    split at he
    · rename_i o' hg
      cases he
      exact (hown _ (get?_mem hg)).moved hh (fun x v h => RepL_move hh (Stays.refl _ _) (fun _ _ => rfl) (RepL_ren h)) hρ hM
    · cases he
  | some p =>
    obtain ⟨wd, i⟩ := p
    simp only [lendObj] at he
    split at he
    · rename_i t T xs hg
      split at he
      · rename_i hc
        obtain ⟨hi, rfl⟩ := hc
        cases he
        obtain ⟨cells, h1, h2, h3⟩ := hown _ (get?_mem hg)
        rcases h3 with ⟨_, h3⟩ | ⟨g, cap, cur, h3, h4, h5, h6, h7, h8, h9⟩
        · omega
        · have hl : (xs.take i).length = i := by simp; omega
          have hl2 : (xs.drop i).length = xs.length - i := by simp
          have e : xs.take i ++ (xs.drop i ++ []) = xs := by simp
          refine ⟨g, cap - i, cells, cur, by rw [e]; exact repL_move hh (Stays.refl _ _) h1, ?_, hM g (by simp only [h3]; rfl), h5, by omega, by omega, by omega, ?_, by simp; omega, by rw [e]; exact h9⟩
          · rw [hρ, hdr, h3, hl, hl2]
          · rw [h8, hl]; congr 1; omega
      · cases he
    · cases he

theorem lendAll_ok {own : List (Nat × OObj)} {l : List Lent} : ∀ {r : List Lent} {os : List OObj}, lendAll own l r = some os → os.length = r.length ∧ ∀ (j : Nat) (x : Lent) (o : OObj), r[j]? = some x → os[j]? = some o → lendObj own l x = some o
  | [], os, h => by simp [lendAll] at h; subst h; exact ⟨rfl, fun j x o h => by simp at h⟩
  | y :: r, os, h => by
    simp only [lendAll] at h
    split at h
    · rename_i o1 os1 h1 h2
      cases h
      obtain ⟨g1, g2⟩ := lendAll_ok h2
      refine ⟨by simp [g1], fun j x o hx ho => ?_⟩
      cases j with
      | zero => simp at hx ho; subst hx; subst ho; exact h1
      | succ j => exact g2 j x o (by simpa using hx) (by simpa using ho)
    · cases h

theorem mem_ioList : ∀ {os : List OObj} {k : Nat} {p : Nat × OObj}, p ∈ ioList k os ↔ k ≤ p.1 ∧ os[p.1 - k]? = some p.2
  | [], k, p => by simp [ioList]
  | o :: os, k, p => by
    simp only [ioList, List.mem_cons]
    rw [mem_ioList]
    obtain ⟨n, q⟩ := p
    constructor
    · rintro (h | ⟨h1, h2⟩)
      · cases h; simp
      · refine ⟨by simp only at h1; omega, ?_⟩
        have : n - k = (n - (k + 1)) + 1 := by simp only at h1; omega
        simp only [this, List.getElem?_cons_succ]; exact h2
    · rintro ⟨h1, h2⟩
      by_cases e : n = k
      · subst e; simp at h2; exact .inl (by rw [h2])
      · right
        simp only at h1 h2
        refine ⟨by simp only; omega, ?_⟩
        have : n - k = (n - (k + 1)) + 1 := by omega
        rw [this, List.getElem?_cons_succ] at h2; exact h2

theorem ioList_pairwise (R : Nat → Nat → Prop) : ∀ (os : List OObj) (k : Nat), (∀ i j, k ≤ i → i < j → j < k + os.length → R i j) → (ioList k os).Pairwise fun p q => R p.1 q.1
  | [], _, _ => .nil
  | o :: os, k, h => by
    simp only [ioList, List.pairwise_cons]
    refine ⟨fun q hq => ?_, ioList_pairwise R os (k + 1) fun i j h1 h2 h3 => h i j (by omega) h2 (by simp only [List.length_cons]; omega)⟩
    obtain ⟨h1, h2⟩ := mem_ioList.1 hq
    have := (List.getElem?_eq_some_iff.1 h2).1
    exact h k q.1 (Nat.le_refl _) (by omega) (by simp only [List.length_cons]; omega)

theorem distinct_ok : ∀ {l : List Nat}, distinct l = true → l.Nodup
  | [], _ => .nil
  | a :: r, h => by
    simp only [distinct, Bool.and_eq_true, Bool.not_eq_true', List.contains_eq_mem, decide_eq_false_iff_not] at h
    exact List.nodup_cons.2 ⟨h.1, distinct_ok h.2⟩

theorem upd_fst {α : Type} : ∀ (l : List (Nat × α)) (n : Nat) (y : α), (upd l n y).map Prod.fst = l.map Prod.fst
  | [], _, _ => rfl
  | (k, x) :: r, n, y => by
    simp only [upd]
    split
    · rfl
    · simp [upd_fst r n y]

theorem mem_upd_nodup {α : Type} : ∀ {l : List (Nat × α)} {n : Nat} {y : α} {p : Nat × α}, (l.map Prod.fst).Nodup → p ∈ upd l n y → p = (n, y) ∨ (p ∈ l ∧ p.1 ≠ n)
  | (k, x) :: r, n, y, p, hp, h => by
    rw [List.map_cons, List.nodup_cons] at hp
    simp only [upd] at h
    split at h
    · rename_i e; subst e
      rcases List.mem_cons.1 h with rfl | h
      · exact .inl rfl
      · exact .inr ⟨by simp [h], fun e => hp.1 (by rw [← e]; exact List.mem_map.2 ⟨p, h, rfl⟩)⟩
    · rename_i e
      rcases List.mem_cons.1 h with rfl | h
      · exact .inr ⟨by simp, e⟩
      · rcases mem_upd_nodup hp.2 h with h1 | ⟨h1, h2⟩
        · exact .inl h1
        · exact .inr ⟨by simp [h1], h2⟩

/-- What comes back: each thing is one that was not lent, or one that comes back. -/
theorem backAll_ok {L : List Lent} : ∀ {r : List Lent} {os : List OObj} {own own' : List (Nat × OObj)} {C : Prop}, backAll L r os own = some (C, own') → C → (own.map Prod.fst).Nodup → (r.map Prod.fst).Nodup →
    own'.map Prod.fst = own.map Prod.fst ∧ ∀ p ∈ own', (p ∈ own ∧ p.1 ∉ r.map Prod.fst) ∨ ∃ (j : Nat) (x : Lent) (o o' : OObj) (C' : Prop), r[j]? = some x ∧ os[j]? = some o ∧ backObj L x o = some (C', o') ∧ C' ∧ p = (x.1, o')
  | [], [], own, own', C, h, _, _, _ => by simp [backAll] at h; obtain ⟨_, rfl⟩ := h; exact ⟨rfl, fun p hp => .inl ⟨hp, by simp⟩⟩
  | [], _ :: _, _, _, _, h, _, _, _ => by simp [backAll] at h
  | _ :: _, [], _, _, _, h, _, _, _ => by simp [backAll] at h
  | x :: r, o :: os, own, own', C, h, hC, hn, hd => by
    simp only [backAll] at h
    split at h
    · rename_i C1 o1 h1
      split at h
      · rename_i C2 own2 h2
        cases h
        rw [List.map_cons, List.nodup_cons] at hd
        have hn' : ((upd own x.1 o1).map Prod.fst).Nodup := by rw [upd_fst]; exact hn
        obtain ⟨g1, g2⟩ := backAll_ok h2 hC.2 hn' hd.2
        refine ⟨by rw [g1, upd_fst], fun p hp => ?_⟩
        rcases g2 p hp with ⟨h3, h4⟩ | ⟨j, x', o', o'', C', h3, h4, h5, h6, h7⟩
        · rcases mem_upd_nodup hn h3 with rfl | ⟨h5, h6⟩
          · exact .inr ⟨0, x, o, o1, C1, by simp, by simp, h1, hC.1, rfl⟩
          · exact .inl ⟨h5, by simp only [List.map_cons, List.mem_cons, not_or]; exact ⟨h6, h4⟩⟩
        · exact .inr ⟨j + 1, x', o', o'', C', by simpa using h3, by simpa using h4, h5, h6, h7⟩
      · cases h
    · cases h

/-- A thing as it comes back. -/
theorem backObj_ok {H H' : Nat → Prop} {w w' : World} {ρ : Nat → Value} {M M' : Nat → Prop} {own : List (Nat × OObj)} {l : List Lent} {G : Nat → Prop} (hown : ∀ p ∈ own, OwnOK G w ρ M p) {x : Lent} {o0 o o' : OObj} {C : Prop} (hl : lendObj own l x = some o0) (he : backObj l x o = some (C, o')) (hC : C) {k : Nat} (hx : l[k - ioB]? = some x)
    {ρ2 : Nat → Value} (hρx : x.2.isSome = true → ρ2 x.1 = ρ x.1) (hMM : ∀ b, M' b → M b) (hh : ∀ b, b < w'.heap.size → H' b → H b) (h : OwnOK H w' (lentρ ρ2 l) M' (k, o)) : OwnOK H' w' ρ2 M (x.1, o') := by
  have hρ : lentρ ρ2 l k = hdr ρ2 x := by simp only [lentρ, hx]
  obtain ⟨id, q⟩ := x
  cases q with
  | none =>
    simp only [backObj] at he
    cases he
    simp only [lendObj] at hl
    split at hl
    · exact h.moved hh (fun x v h => RepL_move hh (Stays.refl _ _) (fun _ _ => rfl) (RepL_back h)) hρ.symm (fun b hb => hMM b (h.lt hb).1)
    · cases hl
  | some p =>
    obtain ⟨wd, i⟩ := p
    simp only [lendObj] at hl
    split at hl
    · rename_i t0 T0 xs0 hg
      split at hl
      · rename_i hc
        obtain ⟨hi, rfl⟩ := hc
        cases hl
        unfold backObj at he
        split at he
        · rename_i hq; cases hq
        · rename_i w1 i1 t T pre xs post hq
          cases hq
          cases he
          obtain ⟨c1, c2, c3⟩ := hC
          subst c3
          obtain ⟨g, cap, cells, cur, r1, r2, r3, r4, r5, r6, r7, r8, r9, r10⟩ := h
          obtain ⟨cells0, _, _, h3⟩ := hown _ (get?_mem hg)
          rw [← hρx rfl] at h3
          rcases h3 with ⟨_, h3⟩ | ⟨g0, cap0, cur0, h3, h4, h5, h6, h7, h8, h9⟩
          · omega
          · rw [hρ, hdr, h3] at r2
            simp at r2
            obtain ⟨⟨rfl, q2⟩, q3, q4⟩ := r2
            have hlen : (pre ++ xs).length = xs0.length := by simp; omega
            have e : pre ++ (xs ++ []) = pre ++ xs := by simp
            rw [e] at r1 r10
            refine ⟨cells, repL_move hh (Stays.refl _ _) r1, ?_, .inr ⟨g0, cap0, cur, ?_, h4, r4, by omega, h7, ?_, r10⟩⟩
            · exact repL_length (fun c x h => t.rep_length h) r1
            · simp only [h3, hlen]
            · rw [r8]; congr 1; omega
        · cases he
      · cases hl
    · cases hl

/-! ### Calls -/
theorem calleeOf_ok {X : Cx} {s : AState} {a : Act} {w : World} {ρ : Nat → Value} (h : Fits X s a w ρ) {f : Operand} {g : FuncId} {caps : List LV} (he : calleeOf s f = some (g, caps)) :
    ∃ vs : List Value, a.eval f = .func (.func g) #[] vs.toArray ∧ All2 (RepL (hot X.O ρ s.own) w ρ) caps vs := by
  unfold calleeOf at he
  split at he
  · rename_i g' first caps' hx
    split at he
    · rename_i hc
      cases he
      have hv : a.eval f = _ := opnd_ok h hx
      have e1 : first = #[] := Array.eq_empty_of_size_eq_zero hc.1
      have e2 : caps' = #[] := Array.eq_empty_of_size_eq_zero hc.2
      exact ⟨[], by rw [hv, e1, e2], trivial⟩
    · cases he
  · rename_i g' caps' hx
    cases he
    obtain ⟨vs, hv, hc⟩ : RepL (hot X.O ρ s.own) w ρ (.fn g caps') (a.eval f) := opnd_ok h hx
    refine ⟨vs, hv, ?_⟩
    clear hv hx
    induction caps' generalizing vs with
    | nil => cases vs with
      | nil => trivial
      | cons _ _ => exact hc.elim
    | cons c cs ih => cases vs with
      | nil => exact hc.elim
      | cons v vs =>
        refine ⟨?_, ih vs hc.2⟩
        have h1 := hc.1
        cases c with
        | z t y => exact h1
        | p id => exact h1
  · cases he

theorem hot_fst {O : Nat → Prop} {ρ : Nat → Value} {own own' : List (Nat × OObj)} (h : own'.map Prod.fst = own.map Prod.fst) {b : Nat} (hb : hot O ρ own' b) : hot O ρ own b := by
  rcases hb with hb | ⟨p, hp, hb⟩
  · exact .inl hb
  · have : p.1 ∈ own.map Prod.fst := by rw [← h]; exact List.mem_map.2 ⟨p, hp, rfl⟩
    obtain ⟨q, hq, e⟩ := List.mem_map.1 this
    exact .inr ⟨q, hq, by rw [e]; exact hb⟩

theorem apart_fst {ρ : Nat → Value} {own own' : List (Nat × OObj)} (h : own'.map Prod.fst = own.map Prod.fst) (ha : Apart ρ own) : Apart ρ own' := by
  have key : ∀ l : List (Nat × OObj), Apart ρ l ↔ (l.map Prod.fst).Pairwise fun i j => i ≠ j ∧ ∀ b, Blk (ρ i) b → ¬ Blk (ρ j) b := by
    intro l; unfold Apart; rw [List.pairwise_map]
  rw [key, h, ← key]; exact ha

theorem lendObj_of {own : List (Nat × OObj)} {l : List Lent} {os : List OObj} (h : ∀ (j : Nat) (x : Lent) (o : OObj), l[j]? = some x → os[j]? = some o → lendObj own l x = some o) (hl : os.length = l.length) {j : Nat} (hj : j < l.length) : ∃ h' : j < os.length, lendObj own l l[j] = some os[j] :=
  ⟨by omega, h j _ _ (List.getElem?_eq_getElem hj) (List.getElem?_eq_getElem (by omega))⟩

theorem hotR_new {H : Nat → Prop} {w' : World} {B b : Nat} : ∀ (rs : List RV) (vs : List Value), All2 (RepR H w' B) rs vs → hotR (fun _ => False) rs vs b → B ≤ b
  | [], _, _, hb => hb.elim
  | _ :: _, [], _, hb => hb.elim
  | r :: rs, v :: vs, h, hb => by
    rcases hb with ⟨hb1, hb2⟩ | hb
    · cases r with
      | z t x => simp [RV.isOwn] at hb1
      | fn f caps => simp [RV.isOwn] at hb1
      | val u => simp [RV.isOwn] at hb1
      | own t T xs =>
        obtain ⟨_, cells, _, h2⟩ := h.1
        rcases h2.2 with ⟨q2, _⟩ | ⟨g, cap, cur, e1, e2, _⟩
        · rw [q2] at hb2; simp [Blk] at hb2
        · rw [e1] at hb2; simp [Blk] at hb2; omega
    · exact hotR_new rs vs h.2 hb

theorem apart_mem {ρ : Nat → Value} {own : List (Nat × OObj)} (h : Apart ρ own) {p q : Nat × OObj} (hp : p ∈ own) (hq : q ∈ own) (hne : p.1 ≠ q.1) {b : Nat} (hb : Blk (ρ p.1) b) : ¬ Blk (ρ q.1) b := by
  unfold Apart at h
  induction own with
  | nil => cases hp
  | cons x l ih =>
    rw [List.pairwise_cons] at h
    rcases List.mem_cons.1 hp with e2 | h4 <;> rcases List.mem_cons.1 hq with e3 | h5
    · exact absurd (by rw [e2, e3]) hne
    · rw [e2] at hb; exact (h.1 _ h5).2 b hb
    · intro e; rw [e3] at e; exact (h.1 _ h4).2 b e hb
    · exact ih h.2 h4 h5

theorem effOp_call {X : Cx} (hC : ConsOK X.P X.T) {s s' : AState} {a : Act} {w : World} (h : St X s a w) {o : Oper} {d : Option Nat} {c : Call} {f : Operand} (hcal : c.callee = .value f) (hop : o.op = .call c) (hd : o.dst = d) (hdN : ∀ n, d = some n → X.T.ok n = true) {C : Prop} (he : callOp X.T s d f c.args.toList c.argTypes.toList = some (C, s')) (hCC : C)
    {K : Act → World → Prop} {Q : Exit → Act → World → Prop} (hK : ∀ a' w', St X s' a' w' → K a' w') : o.wpIn (fw X.r) 2 X.P a w K Q := by
  obtain ⟨callee, ⟨args⟩, ⟨types⟩⟩ := c
  simp only at hcal he
  subst hcal
  unfold callOp at he
  obtain ⟨ρ, hf⟩ := h.fits
  split at he
  case h_2 => cases he
  rename_i g caps hg
  split at he
  case h_2 => cases he
  rename_i con hcon
  split at he
  case h_2 => cases he
  rename_i vs s1 hvs
  simp only [] at he
  generalize hl : lentOf s1 (vs ++ caps) = l at he
  generalize hfr : (get? X.T.frees g).getD [] = fr at he
  split at he
  case isFalse => cases he
  rename_i hdist
  split at he
  case isFalse => cases he
  rename_i hex
  split at he
  case h_2 => cases he
  rename_i os hos
  split at he
  case h_2 => cases he
  rename_i C1 rs os' hrs
  split at he
  case h_2 => cases he
  rename_i C2 own' hown'
  obtain ⟨cvals, hcv1, hcv2⟩ := calleeOf_ok hf hg
  obtain ⟨g1, g2, g3⟩ := callArgs_ok h.others _ args types 0 hf hvs
  obtain ⟨fn, hfn, hname, hbody⟩ := hC.bodyAt hcon
  have hcv3 : All2 (RepL (hot X.O ρ s1.own) w ρ) caps cvals := hcv2.imp (fun x v _ hx => RepL_move (fun b _ hb => g2 b hb) (Stays.refl _ _) (fun _ _ => rfl) hx)
  have hvals := (g3.append hcv3).map_left (R' := RepL (hot X.O ρ s1.own) w (lentρ ρ l)) (f := LV.ren l) (fun x v hx => RepL_ren hx)
  obtain ⟨hlen, hlend⟩ := lendAll_ok hos
  have hnd := distinct_ok hdist
  -- the blocks of what is lent
  have hblk : ∀ p ∈ ioList ioB os, ∃ x o, l[p.1 - ioB]? = some x ∧ ioB ≤ p.1 ∧ lendObj s1.own l x = some o ∧ o = p.2 ∧ lentρ ρ l p.1 = hdr ρ x := by
    intro p hp
    obtain ⟨h1, h2⟩ := mem_ioList.1 hp
    have h3 := (List.getElem?_eq_some_iff.1 h2).1
    have h4 : p.1 - ioB < l.length := by omega
    refine ⟨l[p.1 - ioB], p.2, List.getElem?_eq_getElem h4, h1, hlend _ _ _ (List.getElem?_eq_getElem h4) h2, rfl, ?_⟩
    simp only [lentρ, List.getElem?_eq_getElem h4]
  have hlent_own : ∀ {x : Lent} {o : OObj}, lendObj s1.own l x = some o → ∃ q, (x.1, q) ∈ s1.own := by
    intro x o hx
    obtain ⟨id, q⟩ := x
    cases q with
    | none =>
      simp only [lendObj] at hx
      split at hx
      · rename_i o' ho'; exact ⟨o', get?_mem ho'⟩
      · cases hx
    | some p =>
      obtain ⟨wd, i⟩ := p
      simp only [lendObj] at hx
      split at hx
      · rename_i t T xs ho'; exact ⟨_, get?_mem ho'⟩
      · cases hx
  have hlb : ∀ b, lentBlk (lentρ ρ l) os b → ∃ (x : Lent) (q : OObj), (x.1, q) ∈ s1.own ∧ x ∈ l ∧ Blk (ρ x.1) b := by
    rintro b ⟨p, hp, hb⟩
    obtain ⟨x, o', h1, h2, h3, h4, h5⟩ := hblk p hp
    obtain ⟨q, hq⟩ := hlent_own h3
    rw [h5] at hb
    exact ⟨x, q, hq, List.mem_of_getElem? h1, blk_hdr hb⟩
  have hlb_hot : ∀ b, lentBlk (lentρ ρ l) os b → hot X.O ρ s1.own b := fun b hb => by
    obtain ⟨x, q, h1, _, h2⟩ := hlb b hb
    exact hot_blk h1 h2
  have hlb_M : ∀ b, lentBlk (lentρ ρ l) os b → X.M b := fun b hb => by
    obtain ⟨x, q, h1, _, h2⟩ := hlb b hb
    exact ((g1.own _ h1).lt h2).1
  have hot_lt : ∀ b, hot X.O ρ s1.own b → b < w.heap.size := fun b hb => g1.hot_lt h.others h.below hb
  have hlb_B : ∀ b, lentBlk (lentρ ρ l) os b → X.T.base.n ≤ b := fun b hb => (hlb_M b hb).elim (fun h1 => Nat.le_trans h.small.on.1 h1) (fun h1 => h.small.io b h1)
  let O' : Nat → Prop := fun b => hot X.O ρ s1.own b ∧ ¬ lentBlk (lentρ ρ l) os b
  have hOsub : ∀ b, hot O' (lentρ ρ l) (ioList ioB os) b → hot X.O ρ s1.own b := by
    rintro b (hb | ⟨p, hp, hb⟩)
    · exact hb.1
    · exact hlb_hot b ⟨p, hp, hb⟩
  have hOsup : ∀ b, hot X.O ρ s1.own b → hot O' (lentρ ρ l) (ioList ioB os) b := by
    intro b hb
    by_cases hlbb : lentBlk (lentρ ρ l) os b
    · exact .inr hlbb
    · exact .inl ⟨hb, hlbb⟩
  have hownok : ∀ p ∈ ioList ioB os, OwnOK (hot O' (lentρ ρ l) (ioList ioB os)) w (lentρ ρ l) (lentBlk (lentρ ρ l) os) p := by
    intro p hp
    obtain ⟨x, o', h1, h2, h3, h4, h5⟩ := hblk p hp
    subst h4
    refine lendObj_ok g1.own h3 h1 (fun b _ hb => hOsub b hb) (fun b hb => ⟨p, hp, ?_⟩)
    rw [h5]
    obtain ⟨id, q⟩ := x
    cases q with
    | none => exact hb
    | some pr =>
      obtain ⟨wd, i⟩ := pr
      simp only [hdr]
      simp only at hb
      cases hv : ρ id with
      | slice ad n c => cases ad with
        | none => rw [hv] at hb; simp [Blk] at hb
        | some ad => rw [hv] at hb; simpa [Blk] using hb
      | _ =>
        simp only [lendObj] at h3
        split at h3
        · rename_i t T xs hgx
          obtain ⟨_, _, _, h6⟩ := g1.own _ (get?_mem hgx)
          rcases h6 with ⟨h6, _⟩ | ⟨_, _, _, h6, _⟩ <;> · have h7 : ρ id = _ := h6; rw [hv] at h7; cases h7
        · cases h3
  have hapio : Apart (lentρ ρ l) (ioList ioB os) := by
    have hap := ioList_pairwise (fun i j => i ≠ j ∧ ∀ b, Blk (lentρ ρ l i) b → ¬ Blk (lentρ ρ l j) b) os ioB (fun i j h1 h2 h3 => by
      refine ⟨by omega, fun b hb hjb => ?_⟩
      obtain ⟨ni, hni⟩ : ∃ n, i - ioB = n := ⟨_, rfl⟩
      obtain ⟨nj, hnj⟩ : ∃ n, j - ioB = n := ⟨_, rfl⟩
      have hi : ni < l.length := by omega
      have hj : nj < l.length := by omega
      have ei := lendObj_of hlend hlen hi
      have ej := lendObj_of hlend hlen hj
      obtain ⟨qi, hqi⟩ := hlent_own ei.2
      obtain ⟨qj, hqj⟩ := hlent_own ej.2
      simp only [lentρ, hni, hnj, List.getElem?_eq_getElem hi, List.getElem?_eq_getElem hj] at hb hjb
      have hne : (l[ni]).1 ≠ (l[nj]).1 := by
        intro e
        have e1 : (l.map Prod.fst)[ni]'(by simpa using hi) = (l.map Prod.fst)[nj]'(by simpa using hj) := by simpa using e
        have := (List.getElem_inj hnd).1 e1
        omega
      exact g1.two (p := ((l[ni]).1, qi)) (q := ((l[nj]).1, qj)) hqi hqj hne (blk_hdr hb) (blk_hdr hjb))
    exact hap
  have hc1 : C1 := by
    split at he
    · split at he
      · cases he; exact hCC.1
      · cases he
    · split at he
      · cases he; exact hCC.1
      · cases he
  have hc2 : C2 := by
    split at he
    · split at he
      · cases he; exact hCC.2
      · cases he
    · split at he
      · cases he; exact hCC.2
      · cases he
  have hv := hC.at hcon
  rw [hfr] at hv
  have hv := hv _ os C1 rs os' hrs hc1 O' w ((args.map a.eval) ++ cvals).toArray (lentρ ρ l) h.on hlb_B (fun b hb => hot_lt b hb.1) (fun b hb => hb.2) (hvals.imp (fun x v _ hx => RepL_move (fun b _ hb => hOsub b hb) (Stays.refl _ _) (fun _ _ => rfl) hx)) hownok hapio
  have hexec : (execOp a.eval o).run X.P w = .ok (.enter g ((args.map a.eval) ++ cvals).toArray) w := by
    unfold execOp; rw [hop]
    have hn : ¬ fn.name = "runtime.NumGoroutine" := by simpa using hname
    have hbn : ¬ fn.body = none := by intro e; rw [e] at hbody; cases hbody
    simp [resolve, hcv1, Deferred.ofValue, invoke, callFunc, hfn, hn, hbn]
  refine wp_of_enter hexec (hv.mono ?_)
  rintro e w' ⟨rvs, ρ1, rfl, hlen', hb, hρ1, hr, hap, hio, hap1, hdis⟩
  refine ⟨_, rfl, ?_⟩
  have hko : KeepsOthers w w' := KeepsOthers.of_bel hb (fun b hlt hm => by
    rcases hm with hm | ⟨p, hp, hpb⟩
    · omega
    · exact (hownok p hp).cells hpb)
  -- what is exchanged
  have hexk : ∀ k, fr.contains k = true → ∃ id, l[k]? = some (id, none) ∧ k ≠ 0 ∧ X.T.mayMove id = true := by
    intro k hk
    have := List.all_eq_true.1 hex k (by simpa using hk)
    split at this
    · rename_i id he'
      simp only [Bool.and_eq_true, bne_iff_ne, ne_eq] at this
      exact ⟨id, he', this.1, this.2⟩
    · cases this
  have hexm : ∀ {fr : List Nat} {id : Nat}, id ∈ exIds l fr → ∃ k x, fr.contains k = true ∧ l[k]? = some x ∧ x.1 = id := by
    intro fr
    induction fr with
    | nil => intro id h; simp [exIds] at h
    | cons k fr ih =>
      intro id h
      simp only [exIds] at h
      split at h
      · rename_i id' o' hk
        rcases List.mem_cons.1 h with rfl | h
        · exact ⟨k, _, by simp, hk, rfl⟩
        · obtain ⟨k', x, h1, h2, h3⟩ := ih h
          exact ⟨k', x, by simp only [List.contains_cons, h1, Bool.or_true], h2, h3⟩
      · obtain ⟨k', x, h1, h2, h3⟩ := ih h
        exact ⟨k', x, by simp only [List.contains_cons, h1, Bool.or_true], h2, h3⟩
  have hmex : ∀ {fr : List Nat} {k : Nat} {x : Lent}, fr.contains k = true → l[k]? = some x → x.1 ∈ exIds l fr := by
    intro fr
    induction fr with
    | nil => intro k x h; simp at h
    | cons k0 fr ih =>
      intro k x h hx
      simp only [List.contains_cons, Bool.or_eq_true, beq_iff_eq] at h
      simp only [exIds]
      rcases h with rfl | h
      · rw [hx]; simp
      · split
        · exact List.mem_cons_of_mem _ (ih h hx)
        · exact ih h hx
  have huniq : ∀ {i j : Nat} {x y : Lent}, l[i]? = some x → l[j]? = some y → x.1 = y.1 → i = j := by
    intro i j x y hi hj e
    obtain ⟨hi1, rfl⟩ := List.getElem?_eq_some_iff.1 hi
    obtain ⟨hj1, rfl⟩ := List.getElem?_eq_some_iff.1 hj
    have e1 : (l.map Prod.fst)[i]'(by simpa using hi1) = (l.map Prod.fst)[j]'(by simpa using hj1) := by simpa using e
    exact (List.getElem_inj hnd).1 e1
  obtain ⟨ex, hexd⟩ : ∃ ex, exIds l fr = ex := ⟨_, rfl⟩
  rw [hexd] at hown' he
  -- the new names
  obtain ⟨ρ2, hρ2a, hρ2b⟩ : ∃ ρ2 : Nat → Value, (∀ i, i ∉ ex → ρ2 i = ρ i) ∧ ∀ j id, fr.contains j = true → l[j]? = some (id, none) → ρ2 id = ρ1 (ioB + j) := by
    refine ⟨fun i => if i ∈ ex then (match lentAt l ioB (i, none) with | some k => ρ1 k | none => ρ i) else ρ i, fun i hi => by simp [hi], fun j id hj hid => ?_⟩
    have hin : id ∈ ex := by rw [← hexd]; exact hmex hj hid
    have hat : lentAt l ioB (id, none) = some (ioB + j) := by
      have key : ∀ (m : List Lent) (b j : Nat), (∀ i y, m[i]? = some y → y.1 = id → i = j) → m[j]? = some (id, none) → lentAt m b (id, none) = some (b + j) := by
        intro m
        induction m with
        | nil => intro b j _ h; simp at h
        | cons y m ih =>
          intro b j hu hj
          simp only [lentAt]
          by_cases e : y = (id, none)
          · rw [if_pos e]
            have := hu 0 y rfl (by rw [e])
            rw [← this]; rfl
          · rw [if_neg e]
            cases j with
            | zero => simp at hj; exact absurd hj e
            | succ j =>
              rw [ih (b + 1) j (fun i z hi hz => by have := hu (i + 1) z (by simpa using hi) hz; omega) (by simpa using hj)]
              congr 1; omega
      exact key l ioB j (fun i y hi hy => huniq hi hid hy) hid
    simp [hin, hat]
  have hnotex : ∀ {j : Nat} {x : Lent}, l[j]? = some x → fr.contains j = false → x.1 ∉ ex := by
    intro j x hj hf he'
    rw [← hexd] at he'
    obtain ⟨k, y, h1, h2, h3⟩ := hexm he'
    have := huniq h2 hj h3
    subst this
    rw [h1] at hf; cases hf
  have hhdr : ∀ {x : Lent}, x.1 ∉ ex → hdr ρ2 x = hdr ρ x := by
    intro x hx
    obtain ⟨id, q⟩ := x
    cases q with
    | none => exact hρ2a id hx
    | some p => simp only [hdr, hρ2a id hx]
  have hA : ∀ (j : Nat) (x : Lent), l[j]? = some x → hdr ρ2 x = ρ1 (ioB + j) := by
    intro j x hj
    cases hf : fr.contains j with
    | true =>
      obtain ⟨id, h1, _⟩ := hexk j hf
      rw [hj] at h1; cases h1
      exact hρ2b j id hf hj
    | false =>
      rw [hhdr (hnotex hj hf), hρ1 (ioB + j) (by rintro ⟨_, h2⟩; rw [Nat.add_sub_cancel_left] at h2; rw [h2] at hf; cases hf)]
      simp only [lentρ, Nat.add_sub_cancel_left, hj]
  have hρe : ρ1 = lentρ ρ2 l := by
    funext k
    by_cases hk : ioB ≤ k
    · cases hx : l[k - ioB]? with
      | none =>
        rw [hρ1 k (by rintro ⟨_, h2⟩; obtain ⟨id, h3, _⟩ := hexk _ h2; rw [hx] at h3; cases h3)]
        simp only [lentρ, hx]
      | some x =>
        have := hA _ x hx
        rw [show ioB + (k - ioB) = k by omega] at this
        simp only [lentρ, hx, this]
    · have hk0 : k - ioB = 0 := by omega
      rw [hρ1 k (fun h => hk h.1)]
      simp only [lentρ, hk0]
      cases hx : l[0]? with
      | none => rfl
      | some x =>
        have hf : fr.contains 0 = false := by
          cases h : fr.contains 0 with
          | false => rfl
          | true => obtain ⟨_, _, h2, _⟩ := hexk 0 h; exact absurd rfl h2
        exact (hhdr (hnotex hx hf)).symm
  subst hρe
  -- the state with what has come back
  have hnd1 : (s1.own.map Prod.fst).Nodup := by
    have := g1.apart.imp (S := fun p q : Nat × OObj => p.1 ≠ q.1) (fun hpq => hpq.1)
    exact List.pairwise_map.2 this
  have hforget : ∃ s2 : AState, s1.forget ex = s2 ∧ s2.own.map Prod.fst = s1.own.map Prod.fst ∧ (∀ e ∈ s2.env, ∃ v, (e.1, v) ∈ s1.env ∧ e.2 = v.map (LV.forget ex)) ∧ ∀ p ∈ s2.own, ∃ u, (p.1, u) ∈ s1.own ∧ p.2 = u.map (LV.forget ex) := by
    have hfst : ∀ (f : LV → LV) (m : List (Nat × OObj)), (mapOwn f m).map Prod.fst = m.map Prod.fst := by
      intro f m
      induction m with
      | nil => rfl
      | cons p m ih => obtain ⟨k, v⟩ := p; simp only [mapOwn, List.map_cons, ih]
    cases hx : ex with
    | nil =>
      have hid : LV.forget ([] : List Nat) = _root_.id := by funext x; simp [LV.forget]
      refine ⟨s1, rfl, rfl, fun e he => ⟨e.2, he, ?_⟩, fun p hp => ⟨p.2, hp, ?_⟩⟩
      · rw [hid]; cases e.2 <;> simp [AV.map]
      · rw [hid]; cases p.2 <;> simp [OObj.map]
    | cons i r =>
      exact ⟨_, rfl, hfst _ _, fun e he => mem_mapEnv he, fun p hp => mem_mapOwn hp⟩
  obtain ⟨s2, hs2, hs2f, hs2e, hs2o⟩ := hforget
  rw [hs2] at hown' he
  obtain ⟨hfst, hmem⟩ := backAll_ok hown' hc2 (by rw [hs2f]; exact hnd1) hnd
  rw [hs2f] at hfst
  have hnewR : ∀ b, hotR (fun _ => False) rs rvs b → w.heap.size ≤ b := fun b hb => hotR_base rs rvs hr hb
  -- a lent thing's blocks, behind the call
  have hwin : ∀ {x : Lent} {o : OObj} {b : Nat}, lendObj s1.own l x = some o → x.2.isSome = true → Blk (ρ x.1) b → Blk (hdr ρ x) b := by
    intro x o b hx hs hb
    obtain ⟨id, q⟩ := x
    cases q with
    | none => cases hs
    | some pr =>
      obtain ⟨wd, i⟩ := pr
      simp only [hdr]
      simp only at hb
      cases hv : ρ id with
      | slice ad n c => cases ad with
        | none => rw [hv] at hb; simp [Blk] at hb
        | some ad => rw [hv] at hb; simpa [Blk] using hb
      | _ =>
        simp only [lendObj] at hx
        split at hx
        · rename_i t T xs hgx
          obtain ⟨_, _, _, h6⟩ := g1.own _ (get?_mem hgx)
          rcases h6 with ⟨h6, _⟩ | ⟨_, _, _, h6, _⟩ <;> · have h7 : ρ id = _ := h6; rw [hv] at h7; cases h7
        · cases hx
  have hlentB : ∀ {j : Nat} {x : Lent} {b : Nat}, l[j]? = some x → Blk (ρ2 x.1) b → Blk (lentρ ρ2 l (ioB + j)) b := by
    intro j x b hj hb
    rw [← hA j x hj]
    have hjl := (List.getElem?_eq_some_iff.1 hj).1
    have hx := lendObj_of hlend hlen hjl
    have ex' : l[j] = x := (List.getElem?_eq_some_iff.1 hj).2
    rw [ex'] at hx
    obtain ⟨id, q⟩ := x
    cases q with
    | none => exact hb
    | some p =>
      have hne : id ∉ ex := hnotex hj (by
        cases h : fr.contains j with
        | false => rfl
        | true => obtain ⟨_, h1, _⟩ := hexk j h; rw [hj] at h1; cases h1)
      rw [hhdr hne]
      rw [hρ2a id hne] at hb
      exact hwin hx.2 rfl hb
  have hosj : ∀ {j : Nat} {x : Lent}, l[j]? = some x → ∃ o, (ioB + j, o) ∈ ioList ioB os' := by
    intro j x hj
    have hjl := (List.getElem?_eq_some_iff.1 hj).1
    exact ⟨os'[j]'(by omega), mem_ioList.2 ⟨by simp, by simp⟩⟩
  have hlentB' : ∀ {j : Nat} {x : Lent} {b : Nat}, l[j]? = some x → Blk (ρ2 x.1) b → lentBlk (lentρ ρ2 l) os' b := by
    intro j x b hj hb
    obtain ⟨o, ho⟩ := hosj hj
    exact ⟨_, ho, hlentB hj hb⟩
  have hlentM : ∀ {b : Nat}, lentBlk (lentρ ρ2 l) os' b → (w.heap.size ≤ b ∨ lentBlk (lentρ ρ l) os b) ∧ b < w'.heap.size := by
    rintro b ⟨p, hp, hpb⟩
    exact (hio p hp).lt hpb
  -- each thing is lent, or is not
  have hcase : ∀ k, k ∈ s1.own.map Prod.fst → (∃ (j : Nat) (x : Lent), l[j]? = some x ∧ x.1 = k) ∨ (k ∉ l.map Prod.fst ∧ k ∉ ex) := by
    intro k _
    by_cases hk : k ∈ l.map Prod.fst
    · obtain ⟨x, hx, e⟩ := List.mem_map.1 hk
      obtain ⟨j, hj, rfl⟩ := List.mem_iff_getElem.1 hx
      exact .inl ⟨j, _, List.getElem?_eq_getElem hj, e⟩
    · refine .inr ⟨hk, fun he' => hk ?_⟩
      rw [← hexd] at he'
      obtain ⟨j, x, _, h2, h3⟩ := hexm he'
      exact List.mem_map.2 ⟨x, List.mem_of_getElem? h2, h3⟩
  have hfree : ∀ {p : Nat × OObj} {b : Nat}, p ∈ s1.own → p.1 ∉ l.map Prod.fst → Blk (ρ p.1) b → ¬ lentBlk (lentρ ρ l) os b := by
    intro p b hp hpl hb h3
    obtain ⟨x, q, hq1, hq2, hq3⟩ := hlb b h3
    exact g1.two (p := p) (q := (x.1, q)) hp hq1 (fun e => hpl (by rw [e]; exact List.mem_map.2 ⟨x, hq2, rfl⟩)) hb hq3
  have hownkey : ∀ p ∈ own', ∃ q, (p.1, q) ∈ s1.own := by
    intro p hp
    have : p.1 ∈ s1.own.map Prod.fst := by rw [← hfst]; exact List.mem_map.2 ⟨p, hp, rfl⟩
    obtain ⟨q, hq, e⟩ := List.mem_map.1 this
    exact ⟨q.2, by rw [← e]; exact hq⟩
  have hHsub : ∀ b, b < w'.heap.size → hot (fun b => X.O b ∨ hotR (fun _ => False) rs rvs b) ρ2 own' b → hotR (hot O' (lentρ ρ2 l) (ioList ioB os')) rs rvs b := by
    intro b _ hb
    rw [hotR_split]
    rcases hb with (hb | hb) | ⟨p, hp, hpb⟩
    · exact .inl (.inl ⟨.inl hb, fun hl => h.others b hb (hlb_M b hl)⟩)
    · exact .inr hb
    · obtain ⟨q, hq⟩ := hownkey p hp
      rcases hcase p.1 (List.mem_map.2 ⟨_, hq, rfl⟩) with ⟨j, x, hj, e⟩ | ⟨h1, h2⟩
      · rw [← e] at hpb
        exact .inl (.inr (hlentB' hj hpb))
      · rw [hρ2a _ h2] at hpb
        exact .inl (.inl ⟨hot_blk hq hpb, hfree hq h1 hpb⟩)
  have hsubw : ∀ b, b < w.heap.size → hot (fun b => X.O b ∨ hotR (fun _ => False) rs rvs b) ρ2 own' b → hot X.O ρ s1.own b := by
    intro b hbw hb
    rcases hb with (hb | hb) | ⟨p, hp, hpb⟩
    · exact .inl hb
    · have := hnewR b hb; omega
    · obtain ⟨q, hq⟩ := hownkey p hp
      rcases hcase p.1 (List.mem_map.2 ⟨_, hq, rfl⟩) with ⟨j, x, hj, e⟩ | ⟨h1, h2⟩
      · rw [← e] at hpb
        rcases (hlentM (hlentB' hj hpb)).1 with h3 | h3
        · omega
        · exact hlb_hot b h3
      · rw [hρ2a _ h2] at hpb
        exact hot_blk hq hpb
  have hstay : Stays (hot X.O ρ s1.own) w w' := fun b hnb hlt => hb.block b (cells_lt hlt) (fun hm => hm.elim (fun h1 => by have := cells_lt hlt; omega) (fun h1 => hnb (hlb_hot b h1)))
  have hrepf : ∀ x v, RepL (hot X.O ρ s1.own) w ρ x v → RepL (hot (fun b => X.O b ∨ hotR (fun _ => False) rs rvs b) ρ2 own') w' ρ2 (LV.forget ex x) v := by
    intro x v hx
    unfold LV.forget
    split
    · trivial
    · rename_i hno
      refine RepL_move hsubw hstay (fun i hi => hρ2a i (fun he' => hno ?_)) hx
      exact List.any_eq_true.2 ⟨i, he', hi⟩
  have hMx : ∀ b, (w.heap.size ≤ b ∨ lentBlk (lentρ ρ l) os b) → X.M b := fun b hm => hm.elim (fun h1 => .inl (Nat.le_trans h.below.size h1)) (hlb_M b)
  have hfit : Fits { X with O := fun b => X.O b ∨ hotR (fun _ => False) rs rvs b } { s2 with own := own' } a w' ρ2 := by
    refine ⟨fun e he => ?_, fun p hp => ?_, fun p hp hB hF => ?_, ?_⟩
    · obtain ⟨v, h1, h2⟩ := hs2e e he
      rw [h2]
      exact RepV_map hrepf (g1.env _ h1)
    · rcases hmem p hp with ⟨h1, h2⟩ | ⟨j, x, o1, o2, C', h1, h2, h3, h4, rfl⟩
      · obtain ⟨u, hu, e⟩ := hs2o p h1
        have hpe : p.1 ∉ ex := fun he' => by
          rw [← hexd] at he'
          obtain ⟨j, x, _, q2, q3⟩ := hexm he'
          exact h2 (List.mem_map.2 ⟨x, List.mem_of_getElem? q2, q3⟩)
        have := (g1.own _ hu).move (f := LV.forget ex) (ρ' := ρ2) hsubw hstay hrepf (hρ2a _ hpe) (fun b hb1 => hb.block b ((g1.own _ hu).lt hb1).2 (fun hm => hm.elim (fun h3 => by have := ((g1.own _ hu).lt hb1).2; omega) (hfree hu h2 hb1)))
        rw [← e] at this
        exact this
      · have hj := (List.getElem?_eq_some_iff.1 h1).1
        have hx := lendObj_of hlend hlen hj
        have ex' : l[j] = x := by have := (List.getElem?_eq_some_iff.1 h1).2; exact this
        rw [ex'] at hx
        have hk : (ioB + j) - ioB = j := by omega
        have hio1 := hio (ioB + j, o1) (mem_ioList.2 ⟨by simp, by simpa [hk] using h2⟩)
        refine backObj_ok g1.own hx.2 h3 h4 (k := ioB + j) (by rw [hk]; exact h1) (fun hs => hρ2a _ (hnotex h1 ?_)) hMx hHsub hio1
        cases hf : fr.contains j with
        | false => rfl
        | true => obtain ⟨_, q1, _⟩ := hexk j hf; rw [h1] at q1; cases q1; cases hs
    · obtain ⟨q, hq⟩ := hownkey p hp
      have hpe : p.1 ∉ ex := fun he' => by
        rw [← hexd] at he'
        obtain ⟨j, x, q1, q2, q3⟩ := hexm he'
        obtain ⟨id, q4, _, q5⟩ := hexk j q1
        rw [q2] at q4; cases q4
        simp only at q3; subst q3
        simp only [Tab.mayMove, Bool.or_eq_true, decide_eq_true_eq] at q5
        rcases q5 with q5 | q5
        · omega
        · rw [hF] at q5; cases q5
      rw [hρ2a _ hpe]
      exact g1.io (p.1, q) hq hB hF
    · have hpw : own'.Pairwise fun p q => p.1 ≠ q.1 := by
        have : (own'.map Prod.fst).Nodup := by rw [hfst]; exact hnd1
        exact List.pairwise_map.1 this
      refine hpw.imp_of_mem fun {p q} hp hq hne => ⟨hne, fun b hpb hqb => ?_⟩
      obtain ⟨u, hu⟩ := hownkey p hp
      obtain ⟨v, hv'⟩ := hownkey q hq
      rcases hcase p.1 (List.mem_map.2 ⟨_, hu, rfl⟩) with ⟨j, x, hj, e⟩ | ⟨h1, h2⟩ <;> rcases hcase q.1 (List.mem_map.2 ⟨_, hv', rfl⟩) with ⟨j', x', hj', e'⟩ | ⟨h1', h2'⟩
      · rw [← e] at hpb; rw [← e'] at hqb
        have hjj : j ≠ j' := fun ej => by subst ej; rw [hj] at hj'; cases hj'; exact hne (e.symm.trans e')
        obtain ⟨o1, ho1⟩ := hosj hj
        obtain ⟨o2, ho2⟩ := hosj hj'
        exact apart_mem hap1 ho1 ho2 (by simp only; omega) (hlentB hj hpb) (hlentB hj' hqb)
      · rw [← e] at hpb; rw [hρ2a _ h2'] at hqb
        rcases (hlentM (hlentB' hj hpb)).1 with h3 | h3
        · have := ((g1.own _ hv').lt hqb).2; omega
        · exact hfree hv' h1' hqb h3
      · rw [hρ2a _ h2] at hpb; rw [← e'] at hqb
        rcases (hlentM (hlentB' hj' hqb)).1 with h3 | h3
        · have := ((g1.own _ hu).lt hpb).2; omega
        · exact hfree hu h1 hpb h3
      · rw [hρ2a _ h2] at hpb; rw [hρ2a _ h2'] at hqb
        exact g1.two (p := (p.1, u)) (q := (q.1, v)) hu hv' hne hpb hqb
  have hbel : Bel X.M X.w0 w' := h.below.trans hb (fun j hj hm => by
    rcases hm with hm | hm
    · have := h.below.size; omega
    · exact hlb_M j hm)
  have hRdis : ∀ b, hot X.O ρ2 own' b → ¬ hotR (fun _ => False) rs rvs b := by
    rintro b (hb1 | ⟨p, hp, hpb⟩) hbr
    · have := hot_lt b (.inl hb1); have := hnewR b hbr; omega
    · obtain ⟨q, hq⟩ := hownkey p hp
      rcases hcase p.1 (List.mem_map.2 ⟨_, hq, rfl⟩) with ⟨j, x, hj, e⟩ | ⟨h1, h2⟩
      · rw [← e] at hpb
        exact hdis b (hlentB' hj hpb) hbr
      · rw [hρ2a _ h2] at hpb
        have := hot_lt b (hot_blk hq hpb); have := hnewR b hbr; omega
  split at he
  · rename_i d
    split at he
    · rename_i hidB
      cases he
      refine hK _ _ ?_
      rw [hd]
      refine endCall_ok h hko hbel hfit (B := w.heap.size) hRdis h.below.size (hdN d rfl) hidB (hr.imp fun r v _ hrv => RepR_hot (fun b hb hh => ?_) hrv) hap
      refine hHsub b hb ?_
      rw [hotR_split] at hh
      rcases hh with (hh | hh) | hh
      · exact .inl (.inl hh)
      · exact .inr hh
      · exact .inl (.inr hh)
    · cases he
  · split at he
    · cases he
      refine hK _ _ ?_
      rw [hd]
      refine h.next0 (ρ := ρ2) hko hbel ?_
      have e : ({ X with O := fun b => X.O b ∨ hotR (fun _ => False) [] rvs b } : Cx) = X := by
        have : (fun b => X.O b ∨ hotR (fun _ => False) [] rvs b) = X.O := by
          funext b; simp [hotR]
        rw [this]
      rw [e] at hfit
      exact hfit
    · cases he

end Go.Cm
end

section
/- The machine is right: straight code and structured code. -/
namespace Go.Cm
open Go.RowKit

theorem guard_ok {X : Cx} {s : AState} {a : Act} {w : World} {ρ : Nat → Value} (h : Fits X s a w ρ) {ops : List Oper} {o : Oper} {j : Nat} {want φ : Bool} (hg : o.guard = some (j, want)) (he : guardOf ops s j want = some φ) : Region.wanted o (yielded ops.toArray a.tmps) = φ := by
  have hw : Region.wanted o (yielded ops.toArray a.tmps) = (yielded ops.toArray a.tmps j == some want) := by simp [Region.wanted, hg]
  rw [hw]
  unfold guardOf at he
  split at he
  · rename_i oj hoj
    split at he
    · rename_i t ht
      have hy : yielded ops.toArray a.tmps j = match a.tmps[t]? with
          | some (.bool b) => some b
          | _ => none := by
        simp only [yielded, List.getElem?_toArray, hoj, Option.bind_some, ht]; rfl
      have hget : a.tmps.getD t undef = (a.tmps[t]?).getD undef := by simp
      split at he
      · rename_i b hb
        cases he
        have hr := h.env _ (get?_mem hb)
        have hv := bool_val (ρ := ρ) hr
        simp only at hv
        rw [hget] at hv
        cases ht2 : a.tmps[t]? with
        | none => rw [ht2] at hv; simp [undef] at hv
        | some u =>
          rw [ht2] at hv; simp at hv; subst hv
          rw [hy, ht2]
          cases want <;> cases b <;> rfl
      · rename_i ψ b hb
        cases he
        have hr := h.env _ (get?_mem hb)
        cases hψ : ψ with
        | true =>
          have hv := bool_val (ρ := ρ) (hr.1 hψ)
          simp only at hv
          rw [hget] at hv
          cases ht2 : a.tmps[t]? with
          | none => rw [ht2] at hv; simp [undef] at hv
          | some u =>
            rw [ht2] at hv; simp at hv; subst hv
            rw [hy, ht2]
            cases want <;> cases b <;> rfl
        | false =>
          have hv := hr.2 hψ
          simp only at hv
          rw [hget] at hv
          cases ht2 : a.tmps[t]? with
          | none => rw [hy, ht2]; simp
          | some u =>
            rw [ht2] at hv; simp at hv; subst hv
            rw [hy, ht2]; simp [undef]
      · cases he
    · cases he
  · cases he

theorem plain_ok {H : Nat → Prop} {w : World} {ρ : Nat → Value} {v : AV} {u : Value} (hg : ∀ ψ x, v = .g ψ x → ψ = true) (hgt : ∀ ψ x, v = .gt ψ x → ψ = true) (h : RepV H w ρ v u) : RepV H w ρ v.plain u := by
  cases v with
  | l x => exact h
  | agg cs => exact h
  | tup xs => exact h
  | g ψ x => exact h.1 (hg _ _ rfl)
  | gt ψ x => exact h.1 (hgt _ _ rfl)

theorem asks_spec {env : List (Nat × AV)} : ∀ {ts : List Nat}, asks env ts → ∀ t ∈ ts, ∀ ψ x, get? env t = some (.g ψ x) → ψ = true
  | t :: ts, h, u, hu, ψ, x, hg => by
    simp only [asks] at h
    rcases List.mem_cons.1 hu with rfl | hu
    · rw [hg] at h; exact h.1
    · split at h
      · exact asks_spec h.2 u hu ψ x hg
      · exact asks_spec h.2 u hu ψ x hg
      · exact asks_spec h u hu ψ x hg

theorem asks_spec2 {env : List (Nat × AV)} : ∀ {ts : List Nat}, asks env ts → ∀ t ∈ ts, ∀ ψ x, get? env t = some (.gt ψ x) → ψ = true
  | t :: ts, h, u, hu, ψ, x, hg => by
    simp only [asks] at h
    rcases List.mem_cons.1 hu with rfl | hu
    · rw [hg] at h; exact h.1
    · split at h
      · exact asks_spec2 h.2 u hu ψ x hg
      · exact asks_spec2 h.2 u hu ψ x hg
      · exact asks_spec2 h u hu ψ x hg

theorem Fits.sub {X : Cx} {s : AState} {a : Act} {w : World} {ρ : Nat → Value} (h : Fits X s a w ρ) {ts : List Nat} (hk : asks s.env ts) : Fits X { s with env := subEnv s.env ts } a w ρ := by
  refine ⟨fun e he => ?_, h.own, h.io, h.apart⟩
  have key : ∀ (l : List Nat), (∀ t ∈ l, t ∈ ts) → ∀ e ∈ subEnv s.env l, ∃ v, e.1 ∈ ts ∧ get? s.env e.1 = some v ∧ e.2 = v.plain := by
    intro l
    induction l with
    | nil => intro _ e he; simp [subEnv] at he
    | cons t l ih =>
      intro hl e he
      simp only [subEnv] at he
      split at he
      · rename_i v hv
        rcases List.mem_cons.1 he with rfl | he
        · exact ⟨v, hl _ (by simp), hv, rfl⟩
        · exact ih (fun t ht => hl t (by simp [ht])) e he
      · exact ih (fun t ht => hl t (by simp [ht])) e he
  obtain ⟨v, h1, h2, h3⟩ := key ts (fun _ h => h) e he
  rw [h3]
  refine plain_ok (fun ψ x hv => asks_spec hk _ h1 ψ x (by rw [h2, hv])) (fun ψ x hv => asks_spec2 hk _ h1 ψ x (by rw [h2, hv])) (h.env _ (get?_mem h2))

theorem pick_ok {X : Cx} {s : AState} {a : Act} {w : World} {ρ : Nat → Value} (h : Fits X s a w ρ) {c x y : Operand} {C : Prop} {v : LV} (he : pickLV s c x y = some (C, v)) (hk : asks s.env (tmpsOf [c])) (hC : C) {o : Oper} (hop : o.op = .pick c x y) :
    ∃ val, (execOp a.eval o).run X.P w = .ok (.value val) w ∧ RepL (hot X.O ρ s.own) w ρ v val := by
  unfold pickLV at he
  split at he
  · rename_i b hb
    have hcv : a.eval c = .bool b := by
      cases c with
      | tmp t =>
        cases hg : get? s.env t with
        | none => simp [opnd, hg, anyLeaf] at hb
        | some u =>
          have hr := h.env _ (get?_mem hg)
          cases u with
          | l x => simp [opnd, hg, anyLeaf] at hb; subst hb; exact bool_val (ρ := ρ) hr
          | g ψ x =>
            simp [opnd, hg, anyLeaf] at hb; subst hb
            have hψ : ψ = true := asks_spec hk t (by simp [tmpsOf]) ψ _ hg
            exact bool_val (ρ := ρ) (hr.1 hψ)
          | agg cs => simp [opnd, hg, anyLeaf] at hb
          | tup xs => simp [opnd, hg, anyLeaf] at hb
          | gt ψ xs => simp [opnd, hg, anyLeaf] at hb
      | const u =>
        simp [opnd, anyLeaf] at hb
        have := const_ok (H := hot X.O ρ s.own) (w := w) (ρ := ρ) u
        rw [hb] at this
        exact bool_val (ρ := ρ) this
      | global g => simp [opnd, anyLeaf] at hb
      | func f => simp [opnd, anyLeaf] at hb
    have hexec : (execOp a.eval o).run X.P w = .ok (.value (if b then a.eval x else a.eval y)) w := by
      unfold execOp; rw [hop]
      simp [hcv, asBool]
    split at he
    · split at he
      · rename_i u hu
        cases he
        have hy := bool_val (H := hot X.O ρ s.own) (w := w) (ρ := ρ) (opnd_ok h hu)
        refine ⟨_, hexec, ?_⟩
        cases b
        · simp [hy]; exact rep_bool
        · simp [Act.eval]; exact rep_bool
      · rename_i ψ u hu
        cases he
        have hr := opnd_ok h hu
        refine ⟨_, hexec, ?_⟩
        cases b
        · have hy := bool_val (H := hot X.O ρ s.own) (w := w) (ρ := ρ) (hr.1 (hC rfl))
          simp [hy]; exact rep_bool
        · simp [Act.eval]; exact rep_bool
      · cases he
    · split at he
      · rename_i u hu
        cases he
        have hy := bool_val (H := hot X.O ρ s.own) (w := w) (ρ := ρ) (opnd_ok h hu)
        refine ⟨_, hexec, ?_⟩
        cases b
        · simp [Act.eval]; exact rep_bool
        · simp [hy]; exact rep_bool
      · rename_i ψ u hu
        cases he
        have hr := opnd_ok h hu
        refine ⟨_, hexec, ?_⟩
        cases b
        · simp [Act.eval]; exact rep_bool
        · have hy := bool_val (H := hot X.O ρ s.own) (w := w) (ρ := ρ) (hr.1 (hC rfl))
          simp [hy]; exact rep_bool
      · cases he
    · cases he
  · cases he

theorem effOp_ok {X : Cx} (hT : TabOK X.P X.T) (hΓ : ConsOK X.P X.T) {s s' : AState} {a : Act} {w : World} (h : St X s a w) {o : Oper} {d : Option Nat} (hd : o.dst = d) (hdN : ∀ n, d = some n → X.T.ok n = true) {C : Prop} (he : effOp X.T s d o.op = some (C, s')) (hC : C)
    {K : Act → World → Prop} {Q : Exit → Act → World → Prop} (hK : ∀ a' w', St X s' a' w' → K a' w') : o.wpIn (fw X.r) 2 X.P a w K Q := by
  cases hop : o.op with
  | alloc e => rw [hop] at he; cases d with
    | none => simp [effOp] at he
    | some d => exact effOp_alloc hT h hop hd (hdN d rfl) he hK
  | box e x => rw [hop] at he; cases d with
    | none => simp [effOp] at he
    | some d => exact effOp_box h hop hd (hdN d rfl) he hK
  | build e ps => rw [hop] at he; cases d with
    | none => simp [effOp] at he
    | some d => exact effOp_build hT h hop hd (hdN d rfl) he hK
  | buildSlice e n ps => rw [hop] at he; cases d with
    | none => simp [effOp] at he
    | some d => exact effOp_buildSlice hT h hop hd (hdN d rfl) he hK
  | makeSlice e l c => rw [hop] at he; cases d with
    | none => simp [effOp] at he
    | some d => exact effOp_makeSlice hT h hop hd (hdN d rfl) he hC hK
  | slice ty x lo hi mx => rw [hop] at he; cases d with
    | none => simp [effOp] at he
    | some d => exact effOp_slice hT h hop hd (hdN d rfl) he hC hK
  | store t x y => rw [hop] at he; cases d with
    | none => exact effOp_store hT h hop hd he hC hK
    | some d => simp [effOp] at he
  | convert src dst x => rw [hop] at he; cases d with
    | none => simp [effOp] at he
    | some d => exact effOp_convert hT h hop hd (hdN d rfl) he hC hK
  | call c =>
    rw [hop] at he
    simp only [effOp] at he
    split at he
    · rename_i hcal
      cases d with
      | none => simp [appendOp] at he
      | some d => exact effOp_append hT h hcal hop hd (hdN d rfl) he hC hK
    · rename_i f hcal; exact effOp_call hΓ h hcal hop hd hdN he hC hK
    · cases he
  | _ => rw [hop] at he; simp [effOp] at he

/-! ### Calls that are handed data alone -/
theorem get_ids {t : Ty} {c : LV} {x : t.D} (h : c.get t = some x) : c.ids = [] := by
  cases c <;> first | rfl | simp [LV.get] at h

theorem join_ids : ∀ (t : Ty) {l r : List LV} {x : t.D}, t.join l = some (x, r) → ∃ p, l = p ++ r ∧ p.flatMap LV.ids = [] := by
  intro t
  induction t with
  | unit => intro l r x h; simp [Ty.join] at h; exact ⟨[], by simp [h], rfl⟩
  | pair a b iha ihb =>
    intro l r x h
    simp only [Ty.join] at h
    split at h
    · rename_i y l1 h1
      split at h
      · rename_i z l2 h2
        cases h
        obtain ⟨p1, e1, q1⟩ := iha h1
        obtain ⟨p2, e2, q2⟩ := ihb h2
        exact ⟨p1 ++ p2, by rw [e1, e2, List.append_assoc], by rw [List.flatMap_append, q1, q2]; rfl⟩
      · cases h
    · cases h
  | st t ih => intro l r x h; exact ih h
  | arr n t ih => intro l r x h; simp [Ty.join] at h
  | func => intro l r x h; simp [Ty.join] at h
  | int k => intro l r x h; cases l with
    | nil => simp [Ty.join] at h
    | cons c l =>
      simp only [Ty.join] at h
      split at h
      · rename_i y hy; cases h; exact ⟨[c], rfl, by simp [get_ids hy]⟩
      · cases h
  | bool => intro l r x h; cases l with
    | nil => simp [Ty.join] at h
    | cons c l =>
      simp only [Ty.join] at h
      split at h
      · rename_i y hy; cases h; exact ⟨[c], rfl, by simp [get_ids hy]⟩
      · cases h
  | str => intro l r x h; cases l with
    | nil => simp [Ty.join] at h
    | cons c l =>
      simp only [Ty.join] at h
      split at h
      · rename_i y hy; cases h; exact ⟨[c], rfl, by simp [get_ids hy]⟩
      · cases h
  | slice t => intro l r x h; cases l with
    | nil => simp [Ty.join] at h
    | cons c l =>
      simp only [Ty.join] at h
      split at h
      · rename_i y hy; cases h; exact ⟨[c], rfl, by simp [get_ids hy]⟩
      · cases h
  | ptr t => intro l r x h; cases l with
    | nil => simp [Ty.join] at h
    | cons c l =>
      simp only [Ty.join] at h
      split at h
      · rename_i y hy; cases h; exact ⟨[c], rfl, by simp [get_ids hy]⟩
      · cases h
  | opt t => intro l r x h; cases l with
    | nil => simp [Ty.join] at h
    | cons c l =>
      simp only [Ty.join] at h
      split at h
      · rename_i y hy; cases h; exact ⟨[c], rfl, by simp [get_ids hy]⟩
      · cases h

theorem plainArg_call {T : Tab} {s : AState} {io : Bool} {t : TypeId} {x : Operand} {v : LV} (h : plainArg T s t x = some v) : lendArg T io s t x = some (v, s) := by
  unfold plainArg at h
  have fr : ∀ {u : AV}, opnd s x = some u → u.ids = [] → frozenAt s x = s := by
    intro u hu hi; unfold frozenAt; rw [hu]; simp only [hi, AState.freezeAll]
  split at h
  · rename_i u hu
    split at h
    · rename_i hp
      obtain rfl : u = v := by simpa using h
      cases u with
      | z t y => have := fr hu rfl; unfold lendArg callArg; rw [this, hu]; cases io <;> rfl
      | val y => have := fr hu rfl; unfold lendArg callArg; rw [this, hu]; cases io <;> rfl
      | fn f caps => have := fr hu rfl; unfold lendArg callArg; rw [this, hu]; cases io <;> rfl
      | _ => simp [LV.plain] at hp
    · cases h
  · rename_i cs hu
    split at h
    · rename_i u ht
      split at h
      · rename_i a ha
        cases h
        have hi : (AV.agg cs).ids = [] := by
          simp only [AV.get] at ha
          split at ha
          · rename_i y hj
            obtain ⟨p, e, q⟩ := join_ids u hj
            simp only [List.append_nil] at e
            simpa [AV.ids, e] using q
          · cases ha
        have := fr hu hi
        unfold lendArg callArg
        rw [this, hu]
        cases io <;> simp only [ht, ha]
      · cases h
    · cases h
  · cases h

theorem plainArg_plain {T : Tab} {s : AState} {t : TypeId} {x : Operand} {v : LV} (h : plainArg T s t x = some v) : v.plain = true := by
  unfold plainArg at h
  split at h
  · split at h
    · rename_i hp; cases h; exact hp
    · cases h
  · split at h
    · split at h
      · cases h; rfl
      · cases h
    · cases h
  · cases h

theorem plainArgs_call {T : Tab} {s : AState} {io : List Nat} : ∀ {xs : List Operand} {ts : List TypeId} {k : Nat} {vs : List LV}, plainArgs T s ts xs = some vs → callArgs T io k s ts xs = some (vs, s) ∧ vs.all LV.plain = true
  | [], ts, k, vs, h => by cases ts <;> simp [plainArgs] at h <;> subst h <;> exact ⟨by simp [callArgs], rfl⟩
  | x :: xs, [], k, vs, h => by simp [plainArgs] at h
  | x :: xs, t :: ts, k, vs, h => by
    simp only [plainArgs] at h
    split at h
    · rename_i v vs' h1 h2
      cases h
      obtain ⟨g1, g2⟩ := plainArgs_call (io := io) (k := k + 1) h2
      refine ⟨?_, by simp [plainArg_plain h1, g2]⟩
      simp only [callArgs, plainArg_call h1, g1]
    · cases h

theorem plain_lends {v : LV} (h : v.plain = true) : v.lends = [] ∧ v.ren [] = v := by
  cases v with
  | z t x => exact ⟨rfl, rfl⟩
  | val u => exact ⟨rfl, rfl⟩
  | fn f caps =>
    have key : ∀ {cs : List CV}, (cs.all fun c => match c with
        | .z _ _ => true
        | .p _ => false) = true → cs.flatMap CV.lends = [] ∧ capsRen [] cs = some cs := by
      intro cs
      induction cs with
      | nil => intro _; exact ⟨rfl, rfl⟩
      | cons c cs ih =>
        intro h
        simp only [List.all_cons, Bool.and_eq_true] at h
        obtain ⟨h1, h2⟩ := ih h.2
        cases c with
        | z t y => exact ⟨by simp [CV.lends, h1], by simp [capsRen, CV.ren, h2]⟩
        | p id => simp at h
    obtain ⟨h1, h2⟩ := key h
    exact ⟨h1, by simp [LV.ren, h2]⟩
  | _ => simp [LV.plain] at h

theorem plains_lends : ∀ {vs : List LV}, vs.all LV.plain = true → vs.flatMap LV.lends = [] ∧ vs.map (LV.ren []) = vs
  | [], _ => ⟨rfl, rfl⟩
  | v :: vs, h => by
    simp only [List.all_cons, Bool.and_eq_true] at h
    obtain ⟨h1, h2⟩ := plains_lends h.2
    obtain ⟨h3, h4⟩ := plain_lends h.1
    exact ⟨by simp [h1, h3], by simp [h2, h4]⟩

theorem plainCall_callOp {T : Tab} {s : AState} {f : Operand} {args : List Operand} {types : List TypeId} {C : Prop} {rs : List RV} {d : Nat} (h : plainCall T d s f args types = some (C, rs)) (hid : 1000 + 8 * d + rs.length ≤ ioB) :
    callOp T s (some d) f args types = some (C ∧ True, endCall s d rs) := by
  unfold plainCall at h
  split at h
  · rename_i g caps hg
    split at h
    · rename_i hp
      split at h
      · rename_i con vs hcon hvs
        split at h
        · rename_i C' rs' hrs
          cases h
          obtain ⟨h1, h2⟩ := plainArgs_call (io := (get? T.io g).getD []) (k := 0) hvs
          have hall : (vs ++ caps).all LV.plain = true := by rw [List.all_append, h2, hp.1]; rfl
          have hfr : (get? T.frees g).getD [] = [] := by
            have := hp.2
            cases hq : get? T.frees g with
            | none => rfl
            | some l => rw [hq] at this; cases this
          obtain ⟨h3, h4⟩ := plains_lends hall
          have hl : lentOf s (vs ++ caps) = [] := by simp [lentOf, h3, once, ownLends]
          unfold callOp
          simp only [hg, hcon, h1, hl, h4, hfr, exOK, exIds, AState.forget, List.all_nil, lendAll, hrs, backAll, hid, distinct, List.map_nil, if_true]
        · cases h
      · cases h
    · cases h
  · cases h

theorem plainCall_mono {T : Tab} {d : Nat} {s s' : AState} {f : Operand} {args : List Operand} {types : List TypeId} {r : Prop × List RV} (hs : ∀ x v, opnd s x = some v → opnd s' x = some v) (h : plainCall T d s f args types = some r) : plainCall T d s' f args types = some r := by
  have harg : ∀ {t x v}, plainArg T s t x = some v → plainArg T s' t x = some v := by
    intro t x v h
    unfold plainArg at h ⊢
    cases hx : opnd s x with
    | none => rw [hx] at h; cases h
    | some u => rw [hx] at h; rw [hs x u hx]; exact h
  have hargs : ∀ {xs ts vs}, plainArgs T s ts xs = some vs → plainArgs T s' ts xs = some vs := by
    intro xs
    induction xs with
    | nil => intro ts vs h; cases ts <;> simpa [plainArgs] using h
    | cons x xs ih =>
      intro ts vs h
      cases ts with
      | nil => simp [plainArgs] at h
      | cons t ts =>
        simp only [plainArgs] at h ⊢
        split at h
        · rename_i v vs' h1 h2; rw [harg h1, ih h2]; exact h
        · cases h
  unfold plainCall at h ⊢
  have hc : ∀ {r}, calleeOf s f = some r → calleeOf s' f = some r := by
    intro r h
    unfold calleeOf at h ⊢
    cases hx : opnd s f with
    | none => rw [hx] at h; cases h
    | some u => rw [hx] at h; rw [hs f u hx]; exact h
  split at h
  · rename_i g caps hg
    simp only [hc hg]
    split at h
    · rename_i hp
      rw [if_pos hp]
      split at h
      · rename_i con vs hcon hvs
        simp only [hcon, hargs hvs]; exact h
      · cases h
    · cases h
  · cases h

theorem get?_append {α : Type} : ∀ {l m : List (Nat × α)} {n : Nat} {x : α}, get? l n = some x → get? (l ++ m) n = some x
  | (k, y) :: r, m, n, x, h => by
    simp only [get?, List.cons_append] at h ⊢
    split
    · rename_i e; rw [if_pos e] at h; exact h
    · rename_i e; rw [if_neg e] at h; exact get?_append h

theorem rvs_give : ∀ {rs : List RV} {l : List LV}, rvs? rs = some l → ∀ i, giveAll i rs = (l, []) ∧ ownIds i rs = []
  | [], l, h, i => by simp only [rvs?, Option.some.injEq] at h; subst h; exact ⟨rfl, rfl⟩
  | .z t x :: r, l, h, i => by
    simp only [rvs?] at h
    split at h
    · rename_i l' hl
      cases h
      obtain ⟨h1, h2⟩ := rvs_give hl (i + 1)
      exact ⟨by simp [giveAll, RV.give, h1], by simp [ownIds, h2]⟩
    · cases h
  | .fn f caps :: r, l, h, i => by
    simp only [rvs?] at h
    split at h
    · rename_i l' _ hl
      cases h
      obtain ⟨h1, h2⟩ := rvs_give hl (i + 1)
      exact ⟨by simp [giveAll, RV.give, h1], by simp [ownIds, h2]⟩
    · cases h
  | .val u :: r, l, h, i => by
    simp only [rvs?] at h
    split at h
    · rename_i l' hl
      cases h
      obtain ⟨h1, h2⟩ := rvs_give hl (i + 1)
      exact ⟨by simp [giveAll, RV.give, h1], by simp [ownIds, h2]⟩
    · cases h
  | .own .. :: _, _, h, _ => by simp [rvs?] at h

theorem gRes_end {φ : Bool} {rs : List RV} {v : AV} (h : gRes φ rs = some v) (s : AState) (d : Nat) : endCall s d rs = { env := (d, v.plain) :: del s.env d, own := s.own } := by
  unfold gRes at h
  split at h
  · rename_i x hx
    cases h
    obtain ⟨h1, h2⟩ := rvs_give hx (1000 + 8 * d)
    simp [endCall, h1, h2, killAll, AV.plain]
  · rename_i l hl hx
    cases h
    obtain ⟨h1, h2⟩ := rvs_give hx (1000 + 8 * d)
    simp only [endCall, h1, h2, killAll, AV.plain, List.nil_append]
  · cases h

theorem gRes_rep {H : Nat → Prop} {w : World} {ρ : Nat → Value} {φ : Bool} {rs : List RV} {v : AV} (h : gRes φ rs = some v) (u : Value) : (φ = false → u = undef) → (φ = true → RepV H w ρ v.plain u) → RepV H w ρ v u := by
  intro h1 h2
  unfold gRes at h
  split at h
  · cases h; exact ⟨h2, h1⟩
  · cases h; exact ⟨h2, h1⟩
  · cases h

theorem freezes_none {s : AState} {x : Operand} {v : AV} (hx : opnd s x = some v) (hi : v.ids = []) : frozenAt s x = s := by
  unfold frozenAt; rw [hx]; simp only [hi, AState.freezeAll]

theorem litPure_args {s : AState} {t : Ty} : ∀ {n i : Nat} {ps : List (Nat × Operand)} {xs : List t.D}, litPure s t n i ps = some xs → litArgs t n i ps s = some (xs, s)
  | 0, i, [], xs, h => by simp only [litPure] at h; cases h; rfl
  | 0, i, _ :: _, xs, h => by simp only [litPure] at h; cases h
  | n + 1, i, [], xs, h => by
    simp only [litPure] at h
    split at h
    · rename_i a ha
      split at h
      · rename_i r hr
        cases h
        simp only [litArgs, ha, litPure_args hr]
      · cases h
    · cases h
  | n + 1, i, (j, x) :: ps, xs, h => by
    simp only [litPure] at h
    simp only [litArgs]
    split at h
    · rename_i hj
      rw [if_pos hj]
      split at h
      · rename_i v hv
        split at h
        · rename_i hi
          split at h
          · rename_i a ha
            split at h
            · rename_i r hr
              cases h
              simp only [pureArg, freezes_none hv hi, hv, ha, litPure_args hr]
            · cases h
          · cases h
        · cases h
      · cases h
    · rename_i hj
      rw [if_neg hj]
      split at h
      · rename_i a ha
        split at h
        · rename_i r hr
          cases h
          simp only [ha, litPure_args hr]
        · cases h
      · cases h

theorem gEff_ok {X : Cx} (hT : TabOK X.P X.T) {s sb : AState} {a : Act} {w : World} {ρ : Nat → Value} (h : St X s a w) (hf : Fits X s a w ρ) (hsb : Fits X sb a w ρ) (ho : sb.own = s.own) {o : Oper} {d : Nat} (hd : o.dst = some d) (hdN : X.T.ok d = true) {C : Prop} {v : LV} {φ : Bool} (hb : φ = true) (he : gEff X.T sb o.op = some (C, v)) (hC : C)
    {K : Act → World → Prop} {Q : Exit → Act → World → Prop} (hK : ∀ a' w', St X (s.put d (.g φ v)) a' w' → K a' w') : o.wpIn (fw X.r) 2 X.P a w K Q := by
  have fin : ∀ {cs : Array Value} {E : TypeId} {t : Ty} {xs : List t.D} {n cap : Nat}, xs.length = n → n ≤ cap → cap ≤ maxLen → (∃ cells : List Value, repL (fun c y => t.rep (hot X.O ρ s.own) (w.alloc (.cells cs E)) c y) cells xs ∧ ∀ j, j < cells.length → cs[j]? = cells[j]?) → v = .z (.slice t) xs →
      K (a.put (some d) (.slice (some ⟨w.heap.size, 0, none⟩) n cap)) (w.alloc (.cells cs E)) := by
    rintro cs E t xs n cap hl hn hm ⟨cells, hr, hc⟩ rfl
    refine hK _ _ ?_
    have hH : ¬ hot X.O ρ s.own w.heap.size := fun hh => Nat.lt_irrefl _ (hf.hot_lt h.others h.below hh)
    have q2 := hf.keep (w' := w.alloc (.cells cs E)) (fun k hk => alloc_keep _ _ k hk)
    have q3 := q2.put (d := d) (by rw [h.size]; exact Tab.ok_lt hdN) (v := .g φ (.z (.slice t) xs)) (val := .slice (some ⟨w.heap.size, 0, none⟩) n cap) (by
      refine ⟨fun _ => ⟨rfl, .inr ⟨w.heap.size, 0, none, cap, cells, ?_, fun _ => rfl, by rw [hl]; exact hn, hm, hr, fun _ => hH, fun j hj => ?_⟩⟩, fun ht => absurd (hb.symm.trans ht) (by simp)⟩
      · show [_] = [_]; rw [hl]
      · rw [Nat.zero_add, cell_of_row _ _ j cs E (0, 0) (heap_alloc_new w _)]; exact hc j hj)
    exact h.next hdN (KeepsOthers.alloc _ _) (h.below.alloc _) q3
  unfold gEff at he
  split at he
  · rename_i op e n ps hop
    split at he
    · rename_i t E ht hE
      split at he
      · rename_i xs hxs
        split at he
        · rename_i hc
          cases he
          have hty := hT.types _ _ ht
          have hel := hT.elems _ _ hE
          obtain ⟨i, dd, hi, hu, hsz, hrow, hz, el, j, rfl, h2, h3, h4, h5, h6⟩ := hty
          have hEe : E = el := by rw [hel] at hu; cases hu; rfl
          subst hEe
          obtain ⟨g1, g2, g3, r, g4, g5⟩ := litArgs_ok h.others h6 n 0 ps.toList hsb (litPure_args hxs)
          have hrun : ¬ n = 0 → (Instr.buildSlice e n (ps.map fun (i, x) => (i, a.eval x))).run X.P w = .ok (.slice (some ⟨w.heap.size, 0, none⟩) n n) (w.alloc (.cells r.flatten.toArray E)) := by
            intro hn
            refine run_buildSlice w e E n _ _ j _ hel h2 h5 (by rw [h3]; have := hc.1; omega) (by rw [h3]; intro h0; rcases Nat.mul_eq_zero.1 h0 with h0 | h0; exact hn h0; have := hc.2; omega) ?_
            rw [map_toList_eval]
            have := fill_segs (fun i => some (i * j.size, j.size)) (List.replicate n t.zeroCells) _ 0 [] r (fun k hk => by
              have := replicate_places n t.zeroCells k hk
              rw [Nat.zero_add, h3, ← t.zeroCells_length]; exact this) g4
            rw [h3] at this ⊢
            rw [range_zero' n h6 hc.2]
            simpa using this
          have hrun0 : n = 0 → (Instr.buildSlice e n (ps.map fun (i, x) => (i, a.eval x))).run X.P w = .ok (.slice (some ⟨w.heap.size, 0, none⟩) n n) (w.alloc (.cells r.flatten.toArray E)) := by
            intro hn
            subst hn
            have hps : ps.toList = [] := by
              cases hl : ps.toList with
              | nil => rfl
              | cons p l => rw [hl] at g4; simp [segs] at g4
            have hps' : ps = #[] := by apply Array.ext'; simpa using hps
            subst hps'
            simp [segs] at g4; subst g4
            simp [Instr.buildSlice, run_underlying hel, sizeOf, typeInfo, h2, newRow, Instr.fill, Array.range_zero']
          have hrun' := if hn : n = 0 then hrun0 hn else hrun hn
          have hrl := repL_length (fun c x h => t.rep_length h) g5
          have hn63 : n ≤ maxLen := by
            have hm : maxLen = 9223372036854775807 := rfl
            have : n * 1 ≤ n * t.w := Nat.mul_le_mul_left _ hc.2
            have := hc.1
            omega
          refine wp_of_value (by unfold execOp; rw [hop]; exact run_value hrun') ?_
          rw [hd]
          rw [ho] at g5
          exact fin g2 (Nat.le_refl _) hn63 ⟨r.flatten, repL_move (fun _ _ h => h) (fun b _ hb => alloc_keep _ _ b (cells_lt hb)) g5, fun j hj => by simp⟩ rfl
        · cases he
      · cases he
    · cases he
  · rename_i op e l c hop
    split at he
    · rename_i t E k1 l1 k2 c1 ht hE hl hcc
      split at he
      · rename_i x hx
        split at he
        · rename_i hw
          cases he
          obtain ⟨ln, hln⟩ : ∃ ln : Int, ln = l1 := ⟨_, rfl⟩
          subst hln
          obtain ⟨cn, hcn⟩ : ∃ cn : Int, cn = c1 := ⟨_, rfl⟩
          subst hcn
          have c0 : 0 ≤ ln := hC.1
          have c2 : ln ≤ cn := hC.2.1
          have c3 : Roomy t.w cn.toNat := hC.2.2
          have hty := hT.types _ _ ht
          have hel := hT.elems _ _ hE
          obtain ⟨i, dd, hi, hu, hsz, hrow, hz, el, j, rfl, h2, h3, h4, h5, h6⟩ := hty
          have hEe : E = el := by rw [hel] at hu; cases hu; rfl
          subst hEe
          obtain ⟨r1, r2⟩ := roomy_fits c3 hw
          have hm : maxLen = 9223372036854775807 := rfl
          have hbytes : (j.bytes : Int) * cn ≤ 281474976710656 := by
            have : j.bytes * cn.toNat ≤ 24 * t.w * cn.toNat := Nat.mul_le_mul_right _ h4
            rw [Nat.mul_comm (24 * t.w)] at this
            have h7 : ((j.bytes * cn.toNat : Nat) : Int) ≤ 281474976710656 := by omega
            rw [Int.natCast_mul, Int.toNat_of_nonneg (by omega)] at h7
            exact h7
          have hrun := run_make (P := X.P) w e E j _ hel h2 h5 k1 k2 ln cn c0 c2 hbytes (by omega)
          rw [h3, madeCells_eq h6 hw] at hrun
          refine wp_of_value (by unfold execOp; rw [hop]; simp only [int_val (leaf_ok hsb hl), int_val (leaf_ok hsb hcc)]; exact run_value hrun) ?_
          rw [hd]
          refine fin (by simp) (by omega) r1 ⟨(List.replicate ln.toNat t.zeroCells).flatten, repL_replicate (t.rep_zero _ _ hx) _, fun j hj => ?_⟩ rfl
          have e : (List.replicate cn.toNat t.zeroCells).flatten = (List.replicate ln.toNat t.zeroCells).flatten ++ (List.replicate (cn.toNat - ln.toNat) t.zeroCells).flatten := by
            rw [← List.flatten_append, List.replicate_append_replicate]; congr 2; omega
          rw [e]
          simp only [List.getElem?_toArray]
          rw [List.getElem?_append_left hj]
        · cases he
      · cases he
    · cases he
  · cases he

/-- One operation of straight code. -/
theorem step_ok {X : Cx} (hT : TabOK X.P X.T) (hΓ : ConsOK X.P X.T) {ops : List Oper} {o : Oper} {s s' : AState} {a : Act} {w : World} (h : St X s a w) {C : Prop} (he : stepOp X.T ops o s = some (C, s')) (hC : C)
    {K : Act → World → Prop} {Q : Exit → Act → World → Prop} (hK : ∀ a' w', St X s' a' w' → K a' w') :
    if Region.wanted o (yielded ops.toArray a.tmps) then o.wpIn (fw X.r) 2 X.P a w K Q else (∀ f, o.about X.P w a.eval = some f → (fw X.r).fn f) ∧ K (a.put o.dst undef) w := by
  obtain ⟨ρ, hf⟩ := h.fits
  unfold stepOp at he
  split at he
  · rename_i hg
    have hw : Region.wanted o (yielded ops.toArray a.tmps) = true := by simp [Region.wanted, hg]
    rw [if_pos hw]
    split at he
    · rename_i c x y hop
      split at he
      · rename_i d C' v hd hp
        split at he
        · rename_i hdN
          cases he
          obtain ⟨val, h1, h2⟩ := pick_ok hf hp hC.1 hC.2 hop
          refine wp_of_value h1 (hK _ _ ?_)
          rw [hd]
          exact h.put hf hdN h2
        · cases he
      · cases he
    · split at he
      · rename_i C' v hp
        split at he
        · rename_i d hd
          split at he
          · rename_i hdN
            cases he
            obtain ⟨val, h1, h2⟩ := pureOp_ok hT hf hp hC
            refine wp_of_value h1 (hK _ _ ?_)
            rw [hd]
            exact h.put hf hdN h2
          · cases he
        · cases he
      · split at he
        · rename_i d hd
          split at he
          · rename_i hdN
            exact effOp_ok hT hΓ h hd (fun n hn => by cases hn; exact hdN) he hC hK
          · cases he
        · rename_i hd
          exact effOp_ok hT hΓ h hd (fun n hn => by cases hn) he hC hK
  · rename_i j want hg
    split at he
    · rename_i φ d hφ hd
      have hw := guard_ok hf hg hφ
      split at he
      · rename_i hdN
        have hno : ∀ v : LV, φ = false → St X (s.put d (.g φ v)) (a.put o.dst undef) w := by
          intro v hφf
          rw [hd]
          exact h.put hf hdN ⟨fun ht => absurd (hφf.symm.trans ht) (by simp), fun _ => rfl⟩
        split at he
        · rename_i c x y hop
          split at he
          · rename_i C' v hp
            cases he
            cases hb : φ with
            | true =>
              rw [if_pos (hw.trans hb)]
              obtain ⟨val, h1, h2⟩ := pick_ok hf hp (hC hb).1 (hC hb).2 hop
              refine wp_of_value h1 (hK _ _ ?_)
              rw [hd]
              exact h.put hf hdN ⟨fun _ => h2, fun ht => absurd (hb.symm.trans ht) (by simp)⟩
            | false =>
              rw [if_neg (by rw [hw, hb]; simp)]
              exact ⟨fun _ _ => trivial, hK _ _ (hno v hb)⟩
          · cases he
        · split at he
          · rename_i C' v hp
            cases he
            cases hb : φ with
            | true =>
              rw [if_pos (hw.trans hb)]
              obtain ⟨val, h1, h2⟩ := pureOp_ok hT (hf.sub (hC hb).1) hp (hC hb).2
              refine wp_of_value h1 (hK _ _ ?_)
              rw [hd]
              exact h.put hf hdN ⟨fun _ => h2, fun ht => absurd (hb.symm.trans ht) (by simp)⟩
            | false =>
              rw [if_neg (by rw [hw, hb]; simp)]
              exact ⟨fun _ _ => trivial, hK _ _ (hno v hb)⟩
          · split at he
            · rename_i op0 c hop
              split at he
              · rename_i f hcal
                split at he
                · rename_i C' rs hp
                  split at he
                  case h_2 => cases he
                  rename_i v hv
                  split at he
                  · rename_i hid
                    cases he
                    cases hb : φ with
                    | true =>
                      rw [if_pos (hw.trans hb)]
                      obtain ⟨hk, hC'⟩ := hC hb
                      have hsub := hf.sub hk
                      have hplus : St X { env := subEnv s.env (tmpsOf o.op.operands.toList) ++ s.env, own := s.own } a w :=
                        h.next0 (ρ := ρ) (KeepsOthers.refl _) h.below ⟨fun e he => (List.mem_append.1 he).elim (hsub.env e) (hf.env e), hf.own, hf.io, hf.apart⟩
                      have hp2 := plainCall_mono (s' := { env := subEnv s.env (tmpsOf o.op.operands.toList) ++ s.env, own := s.own }) (fun y v hy => by
                        cases y with
                        | tmp t => exact get?_append hy
                        | const v => exact hy
                        | func g => exact hy
                        | global g => exact hy) hp
                      have hcall := plainCall_callOp (d := d) hp2 hid
                      refine effOp_call hΓ hplus hcal hop hd (fun n hn => by cases hn; exact hdN) hcall ⟨hC', trivial⟩ (fun a' w' hst => hK a' w' ?_)
                      obtain ⟨ρ', hf'⟩ := hst.fits
                      rw [gRes_end hv] at hf'
                      refine ⟨hst.marks, hst.kept, hst.size, hst.below, hst.others, hst.small, ρ', fun e he => ?_, hf'.own, hf'.io, hf'.apart⟩
                      simp only [AState.put, List.mem_cons, mem_del] at he
                      rcases he with rfl | ⟨he, hne⟩
                      · have := hf'.env (d, v.plain) (by simp)
                        exact gRes_rep hv _ (fun ht => absurd (hb.symm.trans ht) (by simp)) (fun _ => this)
                      · exact hf'.env e (by simp only [List.mem_cons, mem_del, List.mem_append]; exact .inr ⟨.inr he, hne⟩)
                    | false =>
                      rw [if_neg (by rw [hw, hb]; simp)]
                      refine ⟨fun _ _ => trivial, hK _ _ ?_⟩
                      rw [hd]
                      exact h.put hf hdN (gRes_rep hv _ (fun _ => rfl) (fun ht => absurd (hb.symm.trans ht) (by simp)))
                  · cases he
                · cases he
              · cases he
            · split at he
              · rename_i C' v hp
                cases he
                cases hb : φ with
                | true =>
                  rw [if_pos (hw.trans hb)]
                  exact gEff_ok hT h hf (hf.sub (hC hb).1) rfl hd hdN hb hp (hC hb).2 hK
                | false =>
                  rw [if_neg (by rw [hw, hb]; simp)]
                  exact ⟨fun _ _ => trivial, hK _ _ (hno v hb)⟩
              · cases he
      · cases he
    · cases he

theorem exec_ok {X : Cx} (hT : TabOK X.P X.T) (hΓ : ConsOK X.P X.T) {ops : List Oper} {Q : Exit → Act → World → Prop} : ∀ (l : List Oper) {s s' : AState} {a : Act} {w : World} {C : Prop}, St X s a w → exec X.T ops l s = some (C, s') → C → (∀ a' w', St X s' a' w' → Q .normal a' w') → wpListIn (fw X.r) 2 X.P ops.toArray Q l a w
  | [], s, s', a, w, C, h, he, hC, hQ => by simp [exec] at he; obtain ⟨_, rfl⟩ := he; exact hQ _ _ h
  | o :: r, s, s', a, w, C, h, he, hC, hQ => by
    simp only [exec] at he
    split at he
    · rename_i C1 s1 h1
      split at he
      · rename_i C2 s2 h2
        cases he
        refine wpListIn_step fun K hK => ?_
        exact step_ok hT hΓ h h1 hC.1 (fun a' w' h' => hK _ _ (exec_ok hT hΓ r h' h2 hC.2 hQ))
      · cases he
    · cases he

theorem J_mono {X : Cx} {c : Code} {s : AState} {K K' : Exit → AState → Prop} (h : J X c s K) (hk : ∀ e s', K e s' → K' e s') : J X c s K' :=
  fun _ _ hst => Code.wpIn_mono (fun e _ _ ⟨s', h1, h2⟩ => ⟨s', hk e s' h1, h2⟩) (h _ _ hst)

/-- **The verification condition is enough.** -/
theorem vc_ok {X : Cx} (hT : TabOK X.P X.T) (hΓ : ConsOK X.P X.T) : ∀ (c : Code) {s : AState} {K : Exit → AState → Prop}, vc X c s K → J X c s K := by
  intro c
  induction c with
  | skip => exact fun h a w hst => wpIn_skip ⟨_, h, hst⟩
  | label l => exact fun h a w hst => wpIn_label ⟨_, h, hst⟩
  | region id ops draw =>
    intro s K h
    cases draw with
    | true => exact h
    | false =>
      intro a w hst
      simp only [vc] at h
      split at h
      · rename_i C s' he
        have := exec_ok (Q := post X K) hT hΓ ops.toList hst he h.1 (fun a' w' h' => ⟨_, h.2, h'⟩)
        exact wpIn_region_list (by simpa using this)
      · exact h.elim
  | seq x y ihx ihy =>
    intro s K h a w hst
    refine wpIn_seq (Code.wpIn_mono (fun e a w ⟨s', h1, h2⟩ => ?_) (ihx h a w hst))
    cases e with
    | normal => exact ihy h1 a w h2
    | _ => exact ⟨s', h1, h2⟩
  | cond c x y ihx ihy =>
    intro s K h a w hst
    simp only [vc] at h
    split at h
    · rename_i t ht
      obtain ⟨ρ, hf⟩ := hst.fits
      have hv := bool_val (H := hot X.O ρ s.own) (w := w) (ρ := ρ) (leaf_ok hf ht)
      exact wpIn_cond_split hv (fun e => ihx (h.1 e) a w hst) (fun e => ihy (h.2 e) a w hst)
    · exact h.elim
  | block id c ih =>
    intro s K h a w hst
    refine wpIn_block (Code.wpIn_mono (fun e a w ⟨s', h1, h2⟩ => ?_) (ih h a w hst))
    cases e with
    | exit i =>
      simp only [Exit.inBlock]
      simp only at h1
      split at h1
      · rename_i e; rw [if_pos e]; exact ⟨s', h1, h2⟩
      · rename_i e; rw [if_neg e]; exact ⟨s', h1, h2⟩
    | _ => exact ⟨s', h1, h2⟩
  | loop c ih => exact fun h => h
  | rangeFunc => exact fun h => h.elim
  | exit id => exact fun h a w hst => wpIn_exit ⟨_, h, hst⟩
  | scope => exact fun h => h.elim
  | goto => exact fun h => h.elim
  | ret => exact fun h a w hst => wpIn_ret ⟨_, h, hst⟩
  | refuse => exact fun h => h.elim

/-! ### Weaker states; loops -/
def CV.known (own : List (Nat × OObj)) : CV → Bool
  | .z _ _ => true
  | .p id => (get? own id).isSome

/-- What an abstract value of a state may be taken for in a weaker one ('own': the stronger state's things). -/
def LV.leq (own : List (Nat × OObj)) (u : LV) : LV → Prop
  | .z t x => u.get t = some x
  | .ownS id => match get? own id with
    | some _ => u = .ownS id
    | none => u = .val (.slice none 0 0)
  | .ownP id off => (get? own id).isSome = true ∧ u = .ownP id off
  | .ownE id w i => (get? own id).isSome = true ∧ u = .ownE id w i
  | .ownW id w i => (get? own id).isSome = true ∧ u = .ownW id w i
  | .ownM id => (get? own id).isSome = true ∧ u = .ownM id
  | .ownA id i => (get? own id).isSome = true ∧ u = .ownA id i
  | .ownR id j => (get? own id).isSome = true ∧ u = .ownR id j
  | .ownB id j w k => (get? own id).isSome = true ∧ u = .ownB id j w k
  | .fn f caps => u = .fn f caps ∧ caps.all (CV.known own) = true
  | .val v => u = .val v
  | .junk => True

def leqs (own : List (Nat × OObj)) : List LV → List LV → Prop
  | [], [] => True
  | u :: us, v :: vs => u.leq own v ∧ leqs own us vs
  | _, _ => False

def AV.leq (own : List (Nat × OObj)) (u : AV) : AV → Prop
  | .l (.z t x) => u.get t = some x
  | .l v => match u with
    | .l u => u.leq own v
    | _ => False
  | .agg vs => match u with
    | .agg us => leqs own us vs
    | .l (.z t x) => leqs own (t.cells x) vs ∧ t.isAgg = true
    | _ => False
  | .tup vs => match u with
    | .tup us => leqs own us vs
    | _ => False
  | .g φ v => match u with
    | .g ψ u => ψ = φ ∧ u.leq own v
    | _ => False
  | .gt _ _ => False

def OObj.leq (own : List (Nat × OObj)) : OObj → OObj → Prop
  | .box T us, .box T' vs => T = T' ∧ leqs own us vs
  | .arr t T xs, .arr t' T' ys => ∃ h : t = t', T = T' ∧ h ▸ xs = ys
  | .win t T pre xs post, .win t' T' pre' xs' post' => ∃ h : t = t', T = T' ∧ h ▸ pre = pre' ∧ h ▸ xs = xs' ∧ h ▸ post = post'
  | .que t T xs, .que t' T' ys => ∃ h : t = t', T = T' ∧ h ▸ xs = ys
  | .arr t T xs, .que t' T' ys => ∃ h : t = t', T = T' ∧ h ▸ xs = ys
  | .mat t T E rows idx, .mat t' T' E' rows' idx' => ∃ h : t = t', T = T' ∧ E = E' ∧ h ▸ rows = rows' ∧ idx = idx'
  | _, _ => False

def leEnv (s : AState) : List (Nat × AV) → Prop
  | [] => True
  | (t, v) :: r => (match get? s.env t with
    | some u => u.leq s.own v
    | none => False) ∧ leEnv s r

def leOwn (s : AState) : List (Nat × OObj) → Prop
  | [] => True
  | (t, v) :: r => (match get? s.own t with
    | some u => u.leq s.own v
    | none => match v with
      | .arr _ _ xs => t < ioB ∧ xs = []
      | .que _ _ xs => t < ioB ∧ xs = []
      | _ => False) ∧ (get? r t).isNone = true ∧ leOwn s r

/-- The second state says no more than the first. -/
def le (s s' : AState) : Prop := leEnv s s'.env ∧ leOwn s s'.own

end Go.Cm
end

section
/- Weaker states, loops, sequences with a cut, and functions. -/
namespace Go.Cm
open Go.RowKit

/-- The names of the weaker state: where a thing is new there, it is nil. -/
def virt (ρ : Nat → Value) (own : List (Nat × OObj)) (i : Nat) : Value := match get? own i with
  | some _ => ρ i
  | none => .slice none 0 0

theorem LV.leq_ok {H H' : Nat → Prop} {w : World} {ρ : Nat → Value} {own : List (Nat × OObj)} (hh : ∀ b, b < w.heap.size → H' b → H b) {u v : LV} {val : Value} (hle : u.leq own v) (h : RepL H w ρ u val) : RepL H' w (virt ρ own) v val := by
  cases v with
  | z t x =>
    have := LV.get_ok hle h
    exact ⟨this.1, Ty.rep_move hh (Stays.refl _ _) this.2⟩
  | ownS id =>
    simp only [LV.leq] at hle
    simp only [RepL, virt]
    split at hle
    · rename_i o ho; subst hle; first | (rw [ho]; exact h) | exact h
    · rename_i ho; subst hle; first | (rw [ho]; exact ⟨h, none, 0, 0, h⟩) | exact ⟨h, none, 0, 0, h⟩
  | ownP id off =>
    obtain ⟨h1, rfl⟩ := hle
    obtain ⟨o, ho⟩ := Option.isSome_iff_exists.1 h1
    simp only [RepL, virt, ho]; exact h
  | ownE id wd i =>
    obtain ⟨h1, rfl⟩ := hle
    obtain ⟨o, ho⟩ := Option.isSome_iff_exists.1 h1
    simp only [RepL, virt, ho]; exact h
  | ownW id wd i =>
    obtain ⟨h1, rfl⟩ := hle
    obtain ⟨o, ho⟩ := Option.isSome_iff_exists.1 h1
    simp only [RepL, virt, ho]; exact h
  | ownM id =>
    obtain ⟨h1, rfl⟩ := hle
    obtain ⟨o, ho⟩ := Option.isSome_iff_exists.1 h1
    simp only [RepL, virt, ho]; exact h
  | ownA id i =>
    obtain ⟨h1, rfl⟩ := hle
    obtain ⟨o, ho⟩ := Option.isSome_iff_exists.1 h1
    simp only [RepL, virt, ho]; exact h
  | ownR id j =>
    obtain ⟨h1, rfl⟩ := hle
    obtain ⟨o, ho⟩ := Option.isSome_iff_exists.1 h1
    simp only [RepL, virt, ho]; exact h
  | ownB id j wd i =>
    obtain ⟨h1, rfl⟩ := hle
    obtain ⟨o, ho⟩ := Option.isSome_iff_exists.1 h1
    simp only [RepL, virt, ho]; exact h
  | fn f caps =>
    obtain ⟨rfl, h1⟩ := hle
    obtain ⟨vs, hv, h⟩ := h
    refine ⟨vs, hv, ?_⟩
    clear hv
    induction caps generalizing vs with
    | nil => cases vs with
      | nil => trivial
      | cons _ _ => exact h.elim
    | cons c caps ih => cases vs with
      | nil => exact h.elim
      | cons u vs =>
        simp only [List.all_cons, Bool.and_eq_true] at h1
        refine ⟨?_, ih h1.2 vs h.2⟩
        have h2 := h.1
        cases c with
        | z t y => exact ⟨h2.1, Ty.rep_move hh (Stays.refl _ _) h2.2⟩
        | p id =>
          obtain ⟨o, ho⟩ := Option.isSome_iff_exists.1 (show (get? own id).isSome = true from h1.1)
          simp only [RepCV, virt, ho]; exact h2
  | val v => rw [show u = .val v from hle] at h; exact h
  | junk => trivial

theorem leqs_ok {H H' : Nat → Prop} {w : World} {ρ : Nat → Value} {own : List (Nat × OObj)} (hh : ∀ b, b < w.heap.size → H' b → H b) : ∀ {us vs : List LV} {vals : List Value}, leqs own us vs → All2 (RepL H w ρ) us vals → All2 (RepL H' w (virt ρ own)) vs vals
  | [], [], [], _, _ => trivial
  | _ :: _, _ :: _, _ :: _, h, h' => ⟨LV.leq_ok hh h.1 h'.1, leqs_ok hh h.2 h'.2⟩
  | [], _ :: _, _, h, _ => h.elim
  | _ :: _, [], _, h, _ => h.elim
  | [], [], _ :: _, _, h => h.elim
  | _ :: _, _ :: _, [], _, h => h.elim

theorem leqs_okC {H H' : Nat → Prop} {w : World} {ρ : Nat → Value} {own : List (Nat × OObj)} (hh : ∀ b, b < w.heap.size → H' b → H b) : ∀ {us vs : List LV} {vals : List Value}, leqs own us vs → All2 (RepC H w ρ) us vals → All2 (RepC H' w (virt ρ own)) vs vals
  | [], [], [], _, _ => trivial
  | _ :: _, _ :: _, _ :: _, h, h' => ⟨⟨LV.leq_ok hh h.1 h'.1.1, h'.1.2⟩, leqs_okC hh h.2 h'.2⟩
  | [], _ :: _, _, h, _ => h.elim
  | _ :: _, [], _, h, _ => h.elim
  | [], [], _ :: _, _, h => h.elim
  | _ :: _, _ :: _, [], _, h => h.elim

theorem AV.leq_ok {H H' : Nat → Prop} {w : World} {ρ : Nat → Value} {own : List (Nat × OObj)} (hh : ∀ b, b < w.heap.size → H' b → H b) {u v : AV} {val : Value} (hle : u.leq own v) (h : RepV H w ρ u val) : RepV H' w (virt ρ own) v val := by
  cases v with
  | l v =>
    cases v with
    | z t x =>
      have := AV.get_ok (x := x) (t := t) hle h
      exact ⟨this.1, Ty.rep_move hh (Stays.refl _ _) this.2⟩
    | _ =>
      cases u with
      | l u => exact LV.leq_ok hh (by simpa only [AV.leq] using hle) h
      | _ => exact hle.elim
  | agg vs =>
    cases u with
    | agg us => obtain ⟨l, e, h⟩ := h; exact ⟨l, e, leqs_okC hh hle h⟩
    | l u =>
      cases u with
      | z t x =>
        obtain ⟨h1, h2⟩ := hle
        have ha : isAggV val = true := h.1.trans h2
        cases val <;> simp [isAggV] at ha
        rename_i cs
        exact ⟨cs.toList, by simp, leqs_okC hh h1 (by simpa [Value.cells] using t.cells_ok ρ h.2)⟩
      | _ => exact hle.elim
    | _ => exact hle.elim
  | tup vs =>
    cases u with
    | tup us => obtain ⟨l, e, h⟩ := h; exact ⟨l, e, leqs_ok hh hle h⟩
    | _ => exact hle.elim
  | g φ v =>
    cases u with
    | g ψ u => obtain ⟨rfl, h1⟩ := hle; exact ⟨fun hφ => LV.leq_ok hh h1 (h.1 hφ), h.2⟩
    | _ => exact hle.elim
  | gt φ vs => simp [AV.leq] at hle

theorem leEnv_spec {s : AState} : ∀ {l : List (Nat × AV)}, leEnv s l → ∀ e ∈ l, ∃ u, get? s.env e.1 = some u ∧ u.leq s.own e.2
  | (t, v) :: r, h, e, he => by
    simp only [leEnv] at h
    rcases List.mem_cons.1 he with rfl | he
    · obtain ⟨h1, _⟩ := h
      split at h1
      · rename_i u hu; exact ⟨u, hu, h1⟩
      · exact h1.elim
    · exact leEnv_spec h.2 e he

theorem get?_none {α : Type} : ∀ {l : List (Nat × α)} {n : Nat}, get? l n = none → ∀ p ∈ l, p.1 ≠ n
  | (k, x) :: r, n, h, p, hp => by
    simp only [get?] at h
    split at h
    · cases h
    · rename_i hk
      rcases List.mem_cons.1 hp with rfl | hp
      · exact hk
      · exact get?_none h p hp

theorem leOwn_spec {s : AState} : ∀ {l : List (Nat × OObj)}, leOwn s l → (∀ p ∈ l, (∃ o, get? s.own p.1 = some o ∧ o.leq s.own p.2) ∨ (get? s.own p.1 = none ∧ p.1 < ioB ∧ ∃ t T, p.2 = .arr t T [] ∨ p.2 = .que t T [])) ∧ l.Pairwise (fun p q => p.1 ≠ q.1)
  | [], _ => ⟨fun p hp => by simp at hp, .nil⟩
  | (t, v) :: r, h => by
    simp only [leOwn] at h
    obtain ⟨h1, h2, h3⟩ := h
    obtain ⟨g1, g2⟩ := leOwn_spec h3
    refine ⟨fun p hp => ?_, List.pairwise_cons.2 ⟨fun q hq e => get?_none (Option.isNone_iff_eq_none.1 h2) q hq e.symm, g2⟩⟩
    rcases List.mem_cons.1 hp with rfl | hp
    · split at h1
      · rename_i u hu; exact .inl ⟨u, hu, h1⟩
      · rename_i hu
        refine .inr ⟨hu, ?_⟩
        split at h1
        · obtain ⟨h4, h1⟩ := h1; subst h1; exact ⟨h4, _, _, .inl rfl⟩
        · obtain ⟨h4, h1⟩ := h1; subst h1; exact ⟨h4, _, _, .inr rfl⟩
        · exact h1.elim
    · exact g1 p hp

theorem hot_le {X : Cx} {s s' : AState} (hle : le s s') {ρ : Nat → Value} {b : Nat} (hb : hot X.O (virt ρ s.own) s'.own b) : hot X.O ρ s.own b := by
  obtain ⟨hown, hpw⟩ := leOwn_spec hle.2
  rcases hb with hb | ⟨p, hp, hb⟩
  · exact .inl hb
  · rcases hown p hp with ⟨o, ho, _⟩ | ⟨ho, _, _⟩
    · rw [show virt ρ s.own p.1 = ρ p.1 by simp [virt, ho]] at hb
      exact hot_blk (p := (p.1, o)) (get?_mem ho) hb
    · rw [show virt ρ s.own p.1 = .slice none 0 0 by simp [virt, ho]] at hb; simp [Blk] at hb

theorem Fits.leO {X : Cx} {O' : Nat → Prop} {s s' : AState} {a : Act} {w : World} {ρ : Nat → Value} (hle : le s s') (hf : Fits X s a w ρ) (hh : ∀ b, b < w.heap.size → hot O' (virt ρ s.own) s'.own b → hot X.O ρ s.own b) : Fits { X with O := O' } s' a w (virt ρ s.own) := by
  obtain ⟨hown, hpw⟩ := leOwn_spec hle.2
  have hv : ∀ i o, get? s.own i = some o → virt ρ s.own i = ρ i := fun i o ho => by simp [virt, ho]
  have hn : ∀ i, get? s.own i = none → virt ρ s.own i = .slice none 0 0 := fun i ho => by simp [virt, ho]
  refine ⟨fun e he => ?_, fun p hp => ?_, fun p hp hB hF => ?_, ?_⟩
  · obtain ⟨u, h1, h2⟩ := leEnv_spec hle.1 e he
    exact AV.leq_ok hh h2 (hf.env _ (get?_mem h1))
  · rcases hown p hp with ⟨o, ho, hl⟩ | ⟨ho, _, t, T, hp2⟩
    · have hok := hf.own _ (get?_mem ho)
      obtain ⟨id, obj⟩ := p
      cases o with
      | box T us =>
        cases obj with
        | box T' vs =>
          obtain ⟨rfl, hl⟩ := hl
          obtain ⟨b, l, h1, h2, h3, h4⟩ := hok
          exact ⟨b, l, by rw [hv _ _ ho]; exact h1, h2, h3, leqs_okC hh hl h4⟩
        | arr _ _ _ => exact hl.elim
        | win _ _ _ _ _ => exact hl.elim
        | mat _ _ _ _ _ => exact hl.elim
        | que _ _ _ => exact hl.elim
      | que t T xs =>
        cases obj with
        | que t' T' ys =>
          obtain ⟨rfl, rfl, rfl⟩ := hl
          obtain ⟨cells, h1, h2⟩ := hok
          exact ⟨cells, repL_move hh (Stays.refl _ _) h1, by rw [hv _ _ ho]; exact h2⟩
        | mat _ _ _ _ _ => exact hl.elim
        | box _ _ => exact hl.elim
        | arr _ _ _ => exact hl.elim
        | win _ _ _ _ _ => exact hl.elim
      | mat t T E rows idx =>
        cases obj with
        | que _ _ _ => exact hl.elim
        | mat t' T' E' rows' idx' =>
          obtain ⟨rfl, rfl, rfl, rfl, rfl⟩ := hl
          obtain ⟨h0, vs, cells, h1, h2⟩ := hok
          exact ⟨h0, vs, cells, by rw [hv _ _ ho]; exact h1, h2.move (fun c x h => Ty.rep_move hh (Stays.refl _ _) h) fun u hu b e => ⟨(h2.Mof hu e).1, rfl⟩⟩
        | box _ _ => exact hl.elim
        | arr _ _ _ => exact hl.elim
        | win _ _ _ _ _ => exact hl.elim
      | win t T pre xs post =>
        cases obj with
        | mat _ _ _ _ _ => exact hl.elim
        | que _ _ _ => exact hl.elim
        | win t' T' pre' xs' post' =>
          obtain ⟨rfl, rfl, rfl, rfl, rfl⟩ := hl
          obtain ⟨g, cap, cells, cur, h1, h2, h3⟩ := hok
          exact ⟨g, cap, cells, cur, repL_move hh (Stays.refl _ _) h1, by rw [hv _ _ ho]; exact h2, h3⟩
        | box _ _ => exact hl.elim
        | arr _ _ _ => exact hl.elim
      | arr t T xs =>
        cases obj with
        | mat _ _ _ _ _ => exact hl.elim
        | que t' T' ys =>
          obtain ⟨rfl, rfl, rfl⟩ := hl
          obtain ⟨cells, h1, h2⟩ := hok
          exact ⟨cells, repL_move hh (Stays.refl _ _) h1, by rw [hv _ _ ho]; exact rowAt_que h2⟩
        | box _ _ => exact hl.elim
        | win _ _ _ _ _ => exact hl.elim
        | arr t' T' ys =>
          obtain ⟨rfl, rfl, rfl⟩ := hl
          obtain ⟨cells, h1, h2⟩ := hok
          exact ⟨cells, repL_move hh (Stays.refl _ _) h1, by rw [hv _ _ ho]; exact h2⟩
    · obtain ⟨id, obj⟩ := p
      simp only at hp2
      rcases hp2 with rfl | rfl
      · exact ⟨[], rfl, by simp [rowAt, hn _ ho]⟩
      · exact ⟨[], rfl, by simp [queAt, hn _ ho]⟩
  · rcases hown p hp with ⟨o, ho, _⟩ | ⟨_, hlt, _⟩
    · rw [hv _ _ ho]; exact hf.io (p.1, o) (get?_mem ho) hB hF
    · exact absurd hB (Nat.not_le.2 hlt)
  · refine hpw.imp_of_mem fun {p q} hp hq hpq => ⟨hpq, fun b hb hqb => ?_⟩
    rcases hown p hp with ⟨o, ho, _⟩ | ⟨ho, _, _⟩
    · rcases hown q hq with ⟨o', ho', _⟩ | ⟨ho', _⟩
      · rw [hv _ _ ho] at hb; rw [hv _ _ ho'] at hqb
        exact hf.two (p := (p.1, o)) (q := (q.1, o')) (get?_mem ho) (get?_mem ho') hpq hb hqb
      · rw [hn _ ho'] at hqb; simp [Blk] at hqb
    · rw [hn _ ho] at hb; simp [Blk] at hb

theorem Fits.le {X : Cx} {s s' : AState} {a : Act} {w : World} {ρ : Nat → Value} (hle : le s s') (hf : Fits X s a w ρ) : Fits X s' a w (virt ρ s.own) := Fits.leO hle hf (fun b _ hb => hot_le hle hb)

theorem St.le {X : Cx} {s s' : AState} {a : Act} {w : World} (hle : le s s') (h : St X s a w) : St X s' a w := by
  obtain ⟨ρ, hf⟩ := h.fits
  exact ⟨h.marks, h.kept, h.size, h.below, h.others, h.small, _, hf.le hle⟩

theorem J_le {X : Cx} {c : Code} {s s' : AState} {K : Exit → AState → Prop} (hle : le s s') (h : J X c s' K) : J X c s K := fun a w hst => h a w (hst.le hle)

theorem loop_ghost {F : Fence} {m : Nat} {P : Program} {Q : Exit → Act → World → Prop} {a : Act} {w : World} {c : Code} (I : Nat → Act → World → Prop) (n₀ : Nat) (h₀ : I n₀ a w)
    (round : ∀ n a w, I n a w → c.wpIn F m P (Exit.then (fun a' w' => ∃ n', n' < n ∧ I n' a' w') Q) a w) : (Code.loop c).wpIn F m P Q a w := by
  refine wpIn_loop (fun a w => ∃ n, I n a w) (fun a w => leastOf (fun n => I n a w)) ⟨n₀, h₀⟩ ?_
  intro a w hI
  refine Code.wpIn_mono ?_ (round _ a w (leastOf_spec hI).1)
  intro e a' w' hq
  cases e with
  | normal =>
    obtain ⟨n', hlt, hI'⟩ := hq
    exact ⟨⟨n', hI'⟩, Nat.lt_of_le_of_lt ((leastOf_spec ⟨n', hI'⟩).2 n' hI') hlt⟩
  | _ => exact hq

/-- **A loop**, over states that are told by plain data. -/
theorem J_loop {X : Cx} (hT : TabOK X.P X.T) (hΓ : ConsOK X.P X.T) {ι : Type} (f : ι → AState) (Φ : ι → Prop) (μ : ι → Nat) {c : Code} {s : AState} {K : Exit → AState → Prop} (x₀ : ι) (h₀ : le s (f x₀)) (hΦ : Φ x₀)
    (hround : ∀ x, Φ x → vc X c (f x) fun e s' => match e with
      | .normal => ∃ y, le s' (f y) ∧ Φ y ∧ μ y < μ x
      | e => K e s') : J X (.loop c) s K := by
  intro a w hst
  refine loop_ghost (fun n a w => ∃ x, μ x = n ∧ Φ x ∧ St X (f x) a w) (μ x₀) ⟨x₀, rfl, hΦ, hst.le h₀⟩ ?_
  rintro n a w ⟨x, rfl, hx, hst⟩
  refine Code.wpIn_mono (fun e a w ⟨s', h1, h2⟩ => ?_) (vc_ok hT hΓ c (hround x hx) a w hst)
  cases e with
  | normal =>
    obtain ⟨y, h3, h4, h5⟩ := h1
    exact ⟨μ y, h5, y, rfl, h4, h2.le h3⟩
  | _ => exact ⟨s', h1, h2⟩

theorem J_seq {X : Cx} (hT : TabOK X.P X.T) (hΓ : ConsOK X.P X.T) {x y : Code} {s : AState} {K : Exit → AState → Prop} (h : vc X x s fun e s' => match e with
    | .normal => J X y s' K
    | e => K e s') : J X (.seq x y) s K := by
  intro a w hst
  refine wpIn_seq (Code.wpIn_mono (fun e a w ⟨s', h1, h2⟩ => ?_) (vc_ok hT hΓ x h a w hst))
  cases e with
  | normal => exact h1 a w h2
  | _ => exact ⟨s', h1, h2⟩

/-- A sequence, cut where ways meet again. -/
theorem J_cut {X : Cx} (hT : TabOK X.P X.T) (hΓ : ConsOK X.P X.T) {ι : Type} (g : ι → AState) (Ψ : ι → Prop) {x y : Code} {s : AState} {K : Exit → AState → Prop} (h : vc X x s fun e s' => match e with
    | .normal => ∃ z, le s' (g z) ∧ Ψ z
    | e => K e s') (h2 : ∀ z, Ψ z → J X y (g z) K) : J X (.seq x y) s K := by
  intro a w hst
  refine wpIn_seq (Code.wpIn_mono (fun e a w ⟨s', h1, h3⟩ => ?_) (vc_ok hT hΓ x h a w hst))
  cases e with
  | normal => obtain ⟨z, h4, h5⟩ := h1; exact h2 z h5 a w (h3.le h4)
  | _ => exact ⟨s', h1, h3⟩

theorem J_vc {X : Cx} (hT : TabOK X.P X.T) (hΓ : ConsOK X.P X.T) {c : Code} {s : AState} {K : Exit → AState → Prop} (h : vc X c s K) : J X c s K := vc_ok hT hΓ c h

/-- What a result variable holds. -/
def resAV (T : Tab) (s : AState) : ResultVar → Option AV
  | .tmp t => get? s.env t
  | .cell t ty => match get? s.env t, get? T.types ty with
    | some (.l (.ownP id 0)), some u => match get? s.own id with
      | some (.box _ cs) => if cs.length = u.w then readCells u cs else none
      | _ => none
    | _, _ => none

/-- The arrays that are handed back. -/
def resIds (T : Tab) (s : AState) : List ResultVar → List RV → List Nat
  | rv :: r, .own .. :: vs => match resAV T s rv with
    | some (.l (.ownS id)) => id :: resIds T s r vs
    | _ => resIds T s r vs
  | _ :: r, .z .. :: vs => resIds T s r vs
  | _ :: r, .fn .. :: vs => resIds T s r vs
  | _ :: r, .val .. :: vs => resIds T s r vs
  | _, _ => []

def CV.pure : CV → Bool
  | .z _ _ => true
  | .p _ => false

/-- A result against what the contract tells ('all': the arrays that are handed back; 'later': those of the results behind it). -/
def resGet (s : AState) (all later : List Nat) : RV → AV → Prop
  | .z t x, u => match u with
    | .l (.ownS id) => (id ∉ all ∧ id < ioB) ∧ match get? s.own id with
      | some (.arr u _ xs) => LV.get t (.z (.slice u) xs) = some x
      | _ => False
    | u => u.get t = some x
  | .own t T xs, u => match u with
    | .l (.ownS id) => (id ∉ later ∧ id < ioB) ∧ match get? s.own id with
      | some (.arr u T' ys) => T = T' ∧ ∃ h : u = t, h ▸ ys = xs
      | _ => False
    | .l (.val v) => isNilS v = true ∧ xs = []
    | _ => False
  | .fn f caps, u => match u with
    | .l (.fn g caps') => g = f ∧ caps' = caps ∧ caps.all CV.pure = true
    | .l (.val (.func (.func g) first caps')) => g = f ∧ first.size = 0 ∧ caps'.size = 0 ∧ caps = []
    | _ => False
  | .val v, u => u = .l (.val v)

/-- The result variables of a function against what its contract tells. -/
def resAt (T : Tab) (s : AState) (all : List Nat) : List ResultVar → List RV → Prop
  | [], [] => True
  | rv :: r, v :: vs => (match resAV T s rv with
    | some u => resGet s all (resIds T s r vs) v u
    | none => False) ∧ resAt T s all r vs
  | _, _ => False

def runRes (tmps : Array Value) : ResultVar → Sem Value
  | .tmp t => pure (tmps.getD t undef)
  | .cell a t => do loadVar t (← asAddr (tmps.getD a undef))

theorem resAV_ok {X : Cx} (hT : TabOK X.P X.T) {s : AState} {a : Act} {w : World} {ρ : Nat → Value} (h : Fits X s a w ρ) {rv : ResultVar} {u : AV} (he : resAV X.T s rv = some u) : ∃ v, (runRes a.tmps rv).run X.P w = .ok v w ∧ RepV (hot X.O ρ s.own) w ρ u v := by
  cases rv with
  | tmp t => exact ⟨_, rfl, h.env (t, u) (get?_mem he)⟩
  | cell t ty =>
    simp only [resAV] at he
    split at he
    · rename_i id u' he1 he2
      split at he
      · rename_i T' cs hg
        split at he
        · rename_i hl
          obtain ⟨b, hb, hv⟩ := h.env _ (get?_mem he1)
          obtain ⟨b', vs, hb', hbase, hh, hcs⟩ := h.own _ (get?_mem hg)
          rw [hb] at hb'; simp at hb'; subst hb'
          have hlen := hcs.length
          have hrun := run_loadAt (hT.types _ _ he2) (w := w) (b := b) (o := 0) (cells := vs) (by rw [← hlen]; exact hl) (fun j _ => by rw [Nat.zero_add, cell_of_row w b j vs.toArray T' (0, 0) hh]; simp)
          refine ⟨_, ?_, readCells_ok he hcs⟩
          simp only at hv
          simp only [runRes, hv]
          exact hrun
        · cases he
      · cases he
    · cases he

theorem frozen_rep {X : Cx} {s : AState} {a : Act} {w : World} {ρ : Nat → Value} (h : Fits X s a w ρ) (hO : ∀ b, X.O b → ¬ X.M b) {id T : Nat} {t : Ty} {xs : List t.D} (hg : get? s.own id = some (.arr t T xs)) {v : Value} (hv : v = ρ id) (hsl : ∃ a n c, v = .slice a n c) {H' : Nat → Prop} (hH : ∀ b, H' b → hot X.O ρ s.own b) (hno : ∀ b, Blk (ρ id) b → H' b → X.O b) : RepL H' w (fun _ => undef) (.z (.slice t) xs) v := by
  obtain ⟨p, n, c, hv2⟩ := hsl
  obtain ⟨hn, cells, hr, hl, hor⟩ := own_val h.own hg (by rw [← hv]; exact hv2)
  subst hn
  refine ⟨by rw [hv2]; rfl, ?_⟩
  rw [hv2]
  rcases hor with ⟨rfl, hx0, rfl⟩ | ⟨g, rfl, hb, h1, h2, cur, hh', h3, h4⟩
  · subst hx0; exact .inl ⟨rfl, rfl⟩
  · refine .inr ⟨g, 0, none, c, cells, rfl, fun _ => rfl, h1, h2, repL_move (fun b _ hb => hH b hb) (Stays.refl _ _) hr, ?_, fun j hj => cell_take hh' h4 hj⟩
    intro _ hg1
    exact hO g (hno g (by rw [← hv, hv2]; rfl) hg1) hb

theorem pureCaps_ok {H H' : Nat → Prop} {w : World} {ρ ρ' : Nat → Value} : ∀ {cs : List CV} {vs : List Value}, cs.all CV.pure = true → (∀ b, H' b → H b) → All2 (RepCV H w ρ) cs vs → All2 (RepCV H' w ρ') cs vs
  | [], [], _, _, _ => trivial
  | [], _ :: _, _, _, h => h.elim
  | _ :: _, [], _, _, h => h.elim
  | c :: cs, v :: vs, hp, hH, h => by
    simp only [List.all_cons, Bool.and_eq_true] at hp
    refine ⟨?_, pureCaps_ok hp.2 hH h.2⟩
    have h3 := h.1
    cases c with
    | z t y => exact ⟨h3.1, Ty.rep_move (fun b _ hb => hH b hb) (Stays.refl _ _) h3.2⟩
    | p id => exact absurd hp.1 (by simp [CV.pure])

theorem resAt_ok {X : Cx} (hT : TabOK X.P X.T) {s : AState} {a : Act} {w : World} {ρ : Nat → Value} (h : Fits X s a w ρ) (hO : ∀ b, X.O b → ¬ X.M b) (hw : X.w0.heap.size ≤ w.heap.size) (all : List Nat) : ∀ (rvs : List ResultVar) (rs : List RV), ((∃ r ∈ rs, r.isOwn = true) → ∀ id o b, get? s.own id = some o → id < ioB → Blk (ρ id) b → ¬ X.I b) → resAt X.T s all rvs rs →
    ∃ vs : List Value, (rvs.mapM (runRes a.tmps)).run X.P w = .ok vs w ∧ vs.length = rs.length ∧
      (∀ b, hotR (fun _ => False) rs vs b → ∃ id ∈ resIds X.T s rvs rs, Blk (ρ id) b ∧ id < ioB ∧ ∃ o, get? s.own id = some o) ∧ apartR rs vs ∧
      ∀ H', (∀ b, H' b → hot X.O ρ s.own b) → (∀ id o b, get? s.own id = some o → id ∉ all → id < ioB → Blk (ρ id) b → H' b → X.O b) → All2 (RepR H' w X.w0.heap.size) rs vs
  | [], [], _, _ => ⟨[], rfl, rfl, fun b hb => hb.elim, trivial, fun _ _ _ => trivial⟩
  | rv :: rvs, r :: rs, hI, hr => by
    simp only [resAt] at hr
    obtain ⟨h1, h2⟩ := hr
    obtain ⟨vs, g1, g2, g3, g4, g5⟩ := resAt_ok hT h hO hw all rvs rs (fun ⟨r', hr', ho'⟩ => hI ⟨r', List.mem_cons_of_mem _ hr', ho'⟩) h2
    split at h1
    · rename_i u hu
      obtain ⟨v, hv1, hv2⟩ := resAV_ok hT h hu
      refine ⟨v :: vs, by simp [List.mapM_cons, hv1, g1], by simp [g2], ?_, ?_, fun H' hH hno => ⟨?_, g5 H' hH hno⟩⟩
      · rintro b (⟨hb1, hb2⟩ | hb)
        · cases r with
          | z t x => simp [RV.isOwn] at hb1
          | fn f caps => simp [RV.isOwn] at hb1
          | val u => simp [RV.isOwn] at hb1
          | own t T xs =>
            simp only [resGet] at h1
            split at h1
            · rename_i id
              refine ⟨id, by simp [resIds, hu], ?_, h1.1.2, ?_⟩
              · rw [← hv2.1]; exact hb2
              · obtain ⟨_, h1⟩ := h1
                split at h1
                · rename_i hg; exact ⟨_, hg⟩
                · exact h1.elim
            · have hv : v = _ := hv2
              rw [hv, nilS_val h1.1] at hb2; simp [Blk] at hb2
            · exact h1.elim
        · obtain ⟨id, hid, hb⟩ := g3 b hb
          refine ⟨id, ?_, hb⟩
          cases r with
          | z t x => simpa [resIds] using hid
          | fn f caps => simpa [resIds] using hid
          | val u => simpa [resIds] using hid
          | own t T xs =>
            simp only [resIds]
            split
            · exact List.mem_cons_of_mem _ hid
            · exact hid
      · refine ⟨fun hb1 b hb hr => ?_, g4⟩
        cases r with
        | z t x => simp [RV.isOwn] at hb1
        | fn f caps => simp [RV.isOwn] at hb1
        | val u => simp [RV.isOwn] at hb1
        | own t T xs =>
          simp only [resGet] at h1
          obtain ⟨id', hid', hb', _, o', ho'⟩ := g3 b hr
          split at h1
          · rename_i id
            obtain ⟨hnot, h1⟩ := h1
            split at h1
            · rename_i hg
              have hne : id ≠ id' := fun e => hnot.1 (e ▸ hid')
              rw [hv2.1] at hb
              exact h.two (p := (id, _)) (q := (id', o')) (get?_mem hg) (get?_mem ho') hne hb hb'
            · exact h1.elim
          · have hv : v = _ := hv2
            rw [hv, nilS_val h1.1] at hb; simp [Blk] at hb
          · exact h1.elim
      · cases r with
        | z t x =>
          simp only [resGet] at h1
          split at h1
          · rename_i id
            obtain ⟨hnot, h1⟩ := h1
            split at h1
            · rename_i u' T' xs hg
              have := frozen_rep h hO hg hv2.1 hv2.2 hH (fun b hb hHb => hno id _ b hg hnot.1 hnot.2 hb hHb)
              exact LV.get_ok h1 this
            · exact h1.elim
          · have q : RepL _ w ρ (.z t x) v := AV.get_ok h1 hv2
            exact ⟨q.1, Ty.rep_move (fun b _ hb => hH b hb) (Stays.refl _ _) q.2⟩
        | own t T xs =>
          simp only [resGet] at h1
          split at h1
          · rename_i id
            obtain ⟨⟨_, hlt⟩, h1⟩ := h1
            split at h1
            · rename_i u' T' ys hg
              obtain ⟨rfl, rfl, rfl⟩ := h1
              obtain ⟨cells, q1, q2⟩ := h.own _ (get?_mem hg)
              refine ⟨hv2.2, cells, repL_move (fun b _ hb => hH b hb) (Stays.refl _ _) q1, ?_⟩
              rw [hv2.1]
              obtain ⟨q3, q4⟩ := q2
              refine ⟨q3, q4.imp_right ?_⟩
              rintro ⟨g, cap, cur, e1, e2, e3⟩
              exact ⟨g, cap, cur, e1, e2.resolve_right (hI ⟨_, List.mem_cons_self .., rfl⟩ id _ g hg hlt (by rw [e1]; rfl)), e3⟩
            · exact h1.elim
          · have hv : v = _ := hv2
            obtain ⟨hn, rfl⟩ := h1
            rw [hv, nilS_val hn]
            exact ⟨⟨_, _, _, rfl⟩, [], rfl, rowAt_nil _ _ _ _⟩
          · exact h1.elim
        | fn f caps =>
          simp only [resGet] at h1
          split at h1
          · obtain ⟨rfl, rfl, hp⟩ := h1
            obtain ⟨ws, hv, hc⟩ := hv2
            refine ⟨ws, hv, pureCaps_ok hp (fun b hb => hH b hb) hc⟩
          · rename_i first caps'
            obtain ⟨rfl, e1, e2, rfl⟩ := h1
            have hv : v = _ := hv2
            have e1 : first = #[] := Array.eq_empty_of_size_eq_zero e1
            have e2 : caps' = #[] := Array.eq_empty_of_size_eq_zero e2
            exact ⟨[], by rw [hv, e1, e2], trivial⟩
          · exact h1.elim
        | val u =>
          simp only [resGet] at h1
          subst h1
          exact hv2
    · exact h1.elim
  | [], _ :: _, _, hr => hr.elim
  | _ :: _, [], _, hr => hr.elim

/-- The frame in which a call begins. -/
def argEnv : Nat → List LV → List (Nat × AV)
  | _, [] => []
  | i, a :: r => (i, .l a) :: argEnv (i + 1) r

theorem mem_argEnv : ∀ {args : List LV} {i : Nat} {e : Nat × AV}, e ∈ argEnv i args → ∃ k, ∃ _ : k < args.length, e = (i + k, .l args[k])
  | a :: r, i, e, h => by
    simp only [argEnv, List.mem_cons] at h
    rcases h with rfl | h
    · exact ⟨0, by simp, rfl⟩
    · obtain ⟨k, hk, rfl⟩ := mem_argEnv h
      exact ⟨k + 1, by simpa using hk, by simp; omega⟩

/-- Does a thing name none but what is lent? -/
def CV.io (n : Nat) : CV → Bool
  | .z _ _ => true
  | .p id => ioB ≤ id && id < ioB + n
def LV.io (n : Nat) : LV → Bool
  | .z _ _ | .val _ | .junk => true
  | .ownS id | .ownP id _ | .ownM id | .ownR id _ => ioB ≤ id && id < ioB + n
  | .fn _ caps => caps.all (CV.io n)
  | _ => false
def OObj.io (n : Nat) : OObj → Bool
  | .box _ cs => cs.all (LV.io n)
  | _ => true

/-- What was lent, against what the contract tells. -/
def ioAt (s : AState) (n : Nat) : Nat → List OObj → Prop
  | _, [] => True
  | k, o :: r => (match get? s.own k with
    | some u => u.leq s.own o ∧ o.io n = true
    | none => False) ∧ ioAt s n (k + 1) r

/-- A state, some of whose arrays are frozen first, against what the contract tells. -/
def EndsAt (T : Tab) (fn : Func) (rs : List RV) (os : List OObj) (s : AState) : Prop :=
  ∃ l : List Nat, resAt T (s.freezeAll l) (resIds T (s.freezeAll l) fn.results.toList rs) fn.results.toList rs ∧ ioAt (s.freezeAll l) os.length ioB os

theorem St.freezeAll {X : Cx} {s : AState} {a : Act} {w : World} (h : St X s a w) (l : List Nat) : St X (s.freezeAll l) a w := by
  obtain ⟨ρ, hf⟩ := h.fits
  exact ⟨h.marks, h.kept, h.size, h.below, h.others, h.small, ρ, hf.freezeAll h.others l⟩

/-- What holds where a function ends. -/
def Ends (T : Tab) (fn : Func) (rs : List RV) (os : List OObj) (e : Exit) (s : AState) : Prop := match e with
  | .normal => EndsAt T fn rs os s
  | .ret => EndsAt T fn rs os s
  | _ => False

theorem ioAt_ok {s : AState} {n : Nat} : ∀ {os : List OObj} {k : Nat}, ioAt s n k os → ∀ p ∈ ioList k os, ∃ u, get? s.own p.1 = some u ∧ u.leq s.own p.2 ∧ p.2.io n = true
  | [], _, _, p, hp => by simp [ioList] at hp
  | o :: r, k, h, p, hp => by
    simp only [ioList, List.mem_cons] at hp
    rcases hp with rfl | hp
    · have h1 := h.1
      split at h1
      · rename_i u hu; exact ⟨u, hu, h1.1, h1.2⟩
      · exact h1.elim
    · exact ioAt_ok h.2 p hp

/-- Names of lent things alone. -/
theorem RepL_io {H : Nat → Prop} {w : World} {ρ ρ' : Nat → Value} {n : Nat} (hρ : ∀ k, ioB ≤ k → k < ioB + n → ρ' k = ρ k) {x : LV} (hx : x.io n = true) {v : Value} (h : RepL H w ρ x v) : RepL H w ρ' x v := by
  refine RepL_move (fun _ _ h => h) (Stays.refl _ _) (fun id hid => ?_) h
  cases x with
  | ownS i =>
    simp only [LV.isOf, beq_iff_eq] at hid; subst hid
    simp only [LV.io, Bool.and_eq_true, decide_eq_true_eq] at hx
    exact hρ _ hx.1 hx.2
  | ownM i =>
    simp only [LV.isOf, beq_iff_eq] at hid; subst hid
    simp only [LV.io, Bool.and_eq_true, decide_eq_true_eq] at hx
    exact hρ _ hx.1 hx.2
  | ownR i j =>
    simp only [LV.isOf, beq_iff_eq] at hid; subst hid
    simp only [LV.io, Bool.and_eq_true, decide_eq_true_eq] at hx
    exact hρ _ hx.1 hx.2
  | ownP i off =>
    simp only [LV.isOf, beq_iff_eq] at hid; subst hid
    simp only [LV.io, Bool.and_eq_true, decide_eq_true_eq] at hx
    exact hρ _ hx.1 hx.2
  | fn f caps =>
    simp only [LV.isOf, List.any_eq_true] at hid
    obtain ⟨c, hc, hci⟩ := hid
    have := List.all_eq_true.1 hx c hc
    cases c with
    | z t y => simp [CV.isOf] at hci
    | p i =>
      simp only [CV.isOf, beq_iff_eq] at hci; subst hci
      simp only [CV.io, Bool.and_eq_true, decide_eq_true_eq] at this
      exact hρ _ this.1 this.2
  | z t y => simp [LV.isOf] at hid
  | val u => simp [LV.isOf] at hid
  | junk => simp [LV.isOf] at hid
  | ownE => simp [LV.io] at hx
  | ownA => simp [LV.io] at hx
  | ownB => simp [LV.io] at hx
  | ownW => simp [LV.io] at hx

theorem leq_io {H : Nat → Prop} {w : World} {ρ ρ0 : Nat → Value} {M M' : Nat → Prop} {own : List (Nat × OObj)} {n k : Nat} {u o : OObj} (hg : get? own k = some u) (hle : u.leq own o) (ho : o.io n = true) (h : OwnOK H w ρ M (k, u)) (hk : ρ0 k = ρ k)
    (hρ : ∀ i, ioB ≤ i → i < ioB + n → ρ0 i = virt ρ own i) (hM : ∀ b, Blk (ρ k) b → M' b) : OwnOK H w ρ0 M' (k, o) := by
  have h := h.moved (H' := H) (ρ' := ρ) (k := k) (f := id) (fun _ _ h => h) (fun _ _ h => h) rfl hM
  rw [OObj.map_id] at h
  have e : virt ρ own k = ρ k := by simp [virt, hg]
  cases u with
  | box T us =>
    cases o with
    | box T' vs =>
      obtain ⟨rfl, hl⟩ := hle
      obtain ⟨b, l, h1, h2, h3, h4⟩ := h
      refine ⟨b, l, by rw [hk]; exact h1, h2, h3, ?_⟩
      have := leqs_okC (H := H) (H' := H) (w := w) (fun _ _ h => h) hl h4
      exact this.imp fun c v hc hr => ⟨RepL_io hρ (List.all_eq_true.1 ho c hc) hr.1, hr.2⟩
    | arr _ _ _ => exact hle.elim
    | win _ _ _ _ _ => exact hle.elim
    | mat _ _ _ _ _ => exact hle.elim
    | que _ _ _ => exact hle.elim
  | mat t T E rows idx =>
    cases o with
    | que _ _ _ => exact hle.elim
    | box _ _ => exact hle.elim
    | arr _ _ _ => exact hle.elim
    | win _ _ _ _ _ => exact hle.elim
    | mat t' T' E' rows' idx' =>
      obtain ⟨rfl, rfl, rfl, rfl, rfl⟩ := hle
      obtain ⟨h0, vs, cells, h1, h2⟩ := h
      exact ⟨h0, vs, cells, by rw [hk]; exact h1, h2⟩
  | que t T xs =>
    cases o with
    | que t' T' ys =>
      obtain ⟨rfl, rfl, rfl⟩ := hle
      obtain ⟨cells, h1, h2⟩ := h
      exact ⟨cells, h1, by rw [hk]; exact h2⟩
    | mat _ _ _ _ _ => exact hle.elim
    | box _ _ => exact hle.elim
    | arr _ _ _ => exact hle.elim
    | win _ _ _ _ _ => exact hle.elim
  | arr t T xs =>
    cases o with
    | mat _ _ _ _ _ => exact hle.elim
    | que t' T' ys =>
      obtain ⟨rfl, rfl, rfl⟩ := hle
      obtain ⟨cells, h1, h2⟩ := h
      exact ⟨cells, h1, by rw [hk]; exact rowAt_que h2⟩
    | box _ _ => exact hle.elim
    | win _ _ _ _ _ => exact hle.elim
    | arr t' T' ys =>
      obtain ⟨rfl, rfl, rfl⟩ := hle
      obtain ⟨cells, h1, h2⟩ := h
      exact ⟨cells, h1, by rw [hk]; exact h2⟩
  | win t T pre xs post =>
    cases o with
    | mat _ _ _ _ _ => exact hle.elim
    | que _ _ _ => exact hle.elim
    | box _ _ => exact hle.elim
    | arr _ _ _ => exact hle.elim
    | win t' T' pre' xs' post' =>
      obtain ⟨rfl, rfl, rfl, rfl, rfl⟩ := hle
      obtain ⟨g, cap, cells, cur, h1, h2, h3⟩ := h
      exact ⟨g, cap, cells, cur, h1, by rw [hk]; exact h2, h3⟩

theorem results_run {P : Program} {fn : Func} {tmps : Array Value} {w : World} {vs : List Value} (h : (fn.results.toList.mapM (runRes tmps)).run P w = .ok vs w) : (results fn tmps).run P w = .ok (retV vs) w := by
  unfold results
  change (do
    let vs ← fn.results.mapM (runRes tmps)
    pure (if h : vs.size = 1 then vs[0] else .tuple vs) : Sem Value).run P w = _
  rw [Sem.run_bind, Array.mapM_eq_mapM_toList]
  simp [h]
  match vs with
  | [] => rfl
  | [v] => rfl
  | v :: u :: r => rfl

/-- A mark is taken away at the function's end. -/
theorem St.unmark {X : Cx} {s : AState} {a : Act} {w : World} {d : Deferred} {ds : List Deferred} (h : St X s a w) (hd : a.defers = d :: ds) :
    ∃ D w2, d.target = .collected D ∧ (Instr.takeDeferred D).run X.P w = .ok [] w2 ∧ St X s { a with defers := ds } w2 := by
  obtain ⟨D, rfl, hB, hD⟩ := h.marks.each d (by rw [hd]; simp)
  have hap := h.marks.apart
  rw [hd, List.pairwise_cons] at hap
  have hother : ∀ k : Nat, k ≠ D → (w.putObj D (.deferred none)).heap[k]? = w.heap[k]? := fun k hk => World.putObj_heap_other hk
  have hcell : ∀ k : Nat, (∃ o : Obj, w.heap[k]? = some o ∧ o.isCells = true) → (w.putObj D (.deferred none)).heap[k]? = w.heap[k]? := by
    rintro k ⟨o, h1, h2⟩
    refine hother k ?_
    rintro rfl
    rw [hD] at h1; cases h1; cases h2
  refine ⟨D, _, rfl, run_takeDeferred hD, ?_⟩
  obtain ⟨ρ, hf⟩ := h.fits
  have hs : Stays (hot X.O ρ s.own) w (w.putObj D (.deferred none)) := fun b _ hb => hcell b hb
  refine ⟨⟨fun d' hd' => ?_, hap.2⟩, h.kept, h.size, ?_, h.others, h.small, ρ, fun e he => ?_, fun p hp => ?_, hf.io, hf.apart⟩
  · obtain ⟨D', rfl, h2, h3⟩ := h.marks.each d' (by rw [hd]; exact List.mem_cons_of_mem _ hd')
    refine ⟨D', rfl, h2, (hother D' ?_).trans h3⟩
    rintro rfl
    exact hap.1 _ hd' rfl
  · exact ⟨h.below.os, h.below.tape, h.below.output, by simpa using h.below.size, fun k hk hm => (hother k (by omega)).trans (h.below.block k hk hm)⟩
  · have := RepV_map (f := id) (fun x v hx => RepL_move (fun _ _ h => h) hs (fun _ _ => rfl) hx) (hf.env e he)
    have e2 : e.2.map id = e.2 := by cases e.2 <;> simp [AV.map]
    rwa [e2] at this
  · exact (hf.own p hp).move_id (fun _ _ h => h) hs (fun b hb => hcell b ((hf.own p hp).cells hb))

theorem leaves_of {X : Cx} {s : AState} {n : Nat} {fn : Func} {R : Ending → World → Prop} : ∀ (ds : List Deferred) (a : Act) (w : World), a.defers = ds → St X s a w →
    (∀ a' w', a'.tmps = a.tmps → a'.defers = [] → St X s a' w' → ∃ v, (results fn a'.tmps).run X.P w' = .ok v w' ∧ R (.returned v) w') → LeavesInM (fw none) n X.P fn a.tmps R ds .returning w
  | [], a, w, hd, h, hfin => hfin a w rfl hd h
  | d :: ds, a, w, hd, h, hfin => by
    obtain ⟨D, w2, h1, h2, h3⟩ := h.unmark hd
    exact ⟨by simp, .inl ⟨D, w2, h1, h2, leaves_of ds { a with defers := ds } w2 rfl h3 (fun a' w' ht => hfin a' w' ht)⟩⟩

/-- **A function meets its contract** if its body's verification condition holds from its arguments; it may exchange some of the lent arrays where it hands back no array. -/
theorem valid_of_Jx {P : Program} {T : Tab} (hT : TabOK P T) {f : FuncId} {fn : Func} {code : Code} {c : Con} {fr : List Nat} (hf : P.funcs[f]? = some fn) (hb : fn.body = some code) (hN : T.N = fn.ntmps) (hkeep : T.keep = []) (hfr : ∀ k, ioB ≤ k → T.free.contains k = true → fr.contains (k - ioB) = true)
    (h : ∀ (args : List LV) (os : List OObj) (C : Prop) (rs : List RV) (os' : List OObj), c args os = some (C, rs, os') → C → args.length ≤ T.N ∧ os'.length = os.length ∧ (T.free = [] ∨ rs.all (fun r => !r.isOwn) = true) ∧ ∀ X : Cx, X.P = P → X.T = T → X.r = none → J X code { env := argEnv 0 args, own := ioList ioB os } (Ends T fn rs os')) : Valid T.base P f c fr := by
  intro args os C rs os' hc hC O w vals ρ0 hOn hIo hO hOI hargs hown hap
  obtain ⟨hlen, hlos, hno, hJ⟩ := h args os C rs os' hc hC
  have hJ := hJ { P := P, T := T, O := O, I := lentBlk ρ0 os, ρ0 := ρ0, w0 := w, r := none, tm := fun _ => undef } rfl rfl rfl
  have hal := hargs.length
  refine CallsIn.calls (callsIn_of_wp_marks (F := fw none) (n := 2) hf hb trivial ?_) (fun k => room_wide k)
  have hst : St { P := P, T := T, O := O, I := lentBlk ρ0 os, ρ0 := ρ0, w0 := w, r := none, tm := fun _ => undef } { env := argEnv 0 args, own := ioList ioB os } { tmps := vals ++ Array.replicate (fn.ntmps - vals.size) undef, defers := [] } w := by
    refine ⟨Marks.nil _ _, fun t ht => by rw [hkeep] at ht; simp at ht, ?_, Bel.refl _ _, fun b hb hm => hm.elim (fun h1 => ?_) (hOI b hb), ⟨hT.small, hOn, hIo⟩, ρ0, fun e he => ?_, fun p hp => ?_, fun _ _ _ _ => rfl, hap⟩
    · simp only [Array.size_append, Array.size_replicate]
      have : vals.size = args.length := by rw [hal]; simp
      rw [hN] at hlen ⊢; omega
    · have := hO b hb; simp only at h1; omega
    · obtain ⟨k, hk, rfl⟩ := mem_argEnv he
      obtain ⟨v, hv1, hv2⟩ := hargs.get (List.getElem?_eq_getElem hk)
      have hkv : k < vals.size := by have := (List.getElem?_eq_some_iff.1 hv1).1; simpa using this
      have hget : (vals ++ Array.replicate (fn.ntmps - vals.size) undef).getD (0 + k) undef = v := by
        rw [Nat.zero_add, Array.getD_eq_getD_getElem?, Array.getElem?_append_left hkv]
        have : vals[k]? = some v := by simpa using hv1
        rw [this]; rfl
      simp only
      rw [hget]
      exact hv2
    · have := (hown p hp).moved (H' := hot O ρ0 (ioList ioB os)) (ρ' := ρ0) (k := p.1) (f := id) (M' := Cx.M { P := P, T := T, O := O, I := lentBlk ρ0 os, ρ0 := ρ0, w0 := w, r := none, tm := fun _ => undef }) (fun _ _ h => h) (fun _ _ h => h) rfl (fun b hb => .inr ⟨p, hp, hb⟩)
      rw [OObj.map_id] at this
      exact this
  refine Code.wpIn_mono (fun e a w' ⟨s', h1, h2⟩ => ?_) (hJ _ _ hst)
  have fin : ∀ s' : AState, resAt T s' (resIds T s' fn.results.toList rs) fn.results.toList rs → ioAt s' os'.length ioB os' → ∀ a w', a.defers = [] → St { P := P, T := T, O := O, I := lentBlk ρ0 os, ρ0 := ρ0, w0 := w, r := none, tm := fun _ => undef } s' a w' → ∃ v, (results fn a.tmps).run P w' = .ok v w' ∧ (∃ (vs : List Value) (ρ1 : Nat → Value), Ending.returned v = .returned (retV vs) ∧ os'.length = os.length ∧ Bel (fun b => w.heap.size ≤ b ∨ lentBlk ρ0 os b) w w' ∧
      (∀ k, ¬ (ioB ≤ k ∧ fr.contains (k - ioB) = true) → ρ1 k = ρ0 k) ∧
      All2 (RepR (hotR (hot O ρ1 (ioList ioB os')) rs vs) w' w.heap.size) rs vs ∧ apartR rs vs ∧ (∀ p ∈ ioList ioB os', OwnOK (hotR (hot O ρ1 (ioList ioB os')) rs vs) w' ρ1 (fun b => w.heap.size ≤ b ∨ lentBlk ρ0 os b) p) ∧
      Apart ρ1 (ioList ioB os') ∧ ∀ b, lentBlk ρ1 os' b → ¬ hotR (fun _ => False) rs vs b) := by
    intro s' hr hio a w' _ h2
    obtain ⟨ρ, hfit⟩ := h2.fits
    obtain ⟨ρ1, hρ1d⟩ : ∃ ρ1 : Nat → Value, ρ1 = fun k => if ioB ≤ k ∧ T.free.contains k = true then ρ k else ρ0 k := ⟨_, rfl⟩
    -- what was lent is there
    have hthere : ∀ p ∈ ioList ioB os', ∃ u, get? s'.own p.1 = some u ∧ ρ p.1 = ρ1 p.1 ∧ ioB ≤ p.1 ∧ u.leq s'.own p.2 ∧ p.2.io os'.length = true := by
      intro p hp
      obtain ⟨q1, q2⟩ := mem_ioList.1 hp
      obtain ⟨u, hu, hle, hpio⟩ := ioAt_ok hio p hp
      refine ⟨u, hu, ?_, q1, hle, hpio⟩
      rw [hρ1d]
      by_cases hF : T.free.contains p.1 = true
      · simp only; rw [if_pos ⟨q1, hF⟩]
      · simp only; rw [if_neg (fun e => hF e.2)]
        exact hfit.io (p.1, u) (get?_mem hu) q1 (by simpa using hF)
    have hI : (∃ r ∈ rs, r.isOwn = true) → ∀ id o b, get? s'.own id = some o → id < ioB → Blk (ρ id) b → ¬ lentBlk ρ0 os b := by
      rintro ⟨r, hrm, hro⟩ id o b ho hid hb ⟨p, hp, hpb⟩
      have hT0 : T.free = [] := by
        rcases hno with h | h
        · exact h
        · have := List.all_eq_true.1 h r hrm
          rw [hro] at this; cases this
      obtain ⟨q1, q2⟩ := mem_ioList.1 hp
      have q3 := (List.getElem?_eq_some_iff.1 q2).1
      obtain ⟨u, hu, e, hge, _⟩ := hthere (p.1, os'[p.1 - ioB]'(by omega)) (mem_ioList.2 ⟨q1, by simp⟩)
      have e0 : ρ1 p.1 = ρ0 p.1 := by rw [hρ1d]; simp [hT0]
      simp only at e hu
      rw [← e0, ← e] at hpb
      exact hfit.two (p := (id, o)) (q := (p.1, u)) (get?_mem ho) (get?_mem hu) (by simp only; omega) hb hpb
    obtain ⟨vs, g1, g2, g3, g4, g5⟩ := resAt_ok (X := { P := P, T := T, O := O, I := lentBlk ρ0 os, ρ0 := ρ0, w0 := w, r := none, tm := fun _ => undef }) hT hfit h2.others h2.below.size _ _ _ hI hr
    have hHs : ∀ b, hotR (hot O ρ1 (ioList ioB os')) rs vs b → hot O ρ s'.own b := by
      intro b hb
      rw [hotR_split] at hb
      rcases hb with (hb | ⟨p, hp, hb⟩) | hb
      · exact .inl hb
      · obtain ⟨u, hu, e, _⟩ := hthere p hp
        rw [← e] at hb
        exact hot_blk (p := (p.1, u)) (get?_mem hu) hb
      · obtain ⟨id, _, hb2, _, o, ho⟩ := g3 b hb
        exact hot_blk (p := (id, o)) (get?_mem ho) hb2
    refine ⟨_, results_run g1, vs, ρ1, rfl, hlos, h2.below, fun k hk => ?_, g5 _ hHs (fun id o b ho hid hlt hbk hb => ?_), g4, fun p hp => ?_, ?_, fun b hb hbr => ?_⟩
    · rw [hρ1d]
      simp only
      rw [if_neg (fun e => hk ⟨e.1, hfr k e.1 e.2⟩)]
    · rw [hotR_split] at hb
      rcases hb with (hb | ⟨p, hp, hb⟩) | hb
      · exact hb
      · obtain ⟨u, hu, e, hge, _⟩ := hthere p hp
        rw [← e] at hb
        exact absurd hb (hfit.two (p := (id, o)) (q := (p.1, u)) (get?_mem ho) (get?_mem hu) (by simp only; omega) hbk)
      · obtain ⟨id', hid', hb2, _, o', ho'⟩ := g3 b hb
        have hne : id ≠ id' := fun e => hid (e ▸ hid')
        exact absurd hb2 (hfit.two (p := (id, o)) (q := (id', o')) (get?_mem ho) (get?_mem ho') hne hbk)
    · obtain ⟨u, hu, e, q1, hle, hpio⟩ := hthere p hp
      have hρk : ∀ i, ioB ≤ i → i < ioB + os'.length → ∃ u, get? s'.own i = some u ∧ ρ i = ρ1 i := by
        intro i hi hi2
        obtain ⟨u, hu, e, _⟩ := hthere (i, os'[i - ioB]'(by omega)) (mem_ioList.2 ⟨hi, by simp⟩)
        exact ⟨u, hu, e⟩
      have hown := hfit.own (p.1, u) (get?_mem hu)
      have h5 := hown.moved (H' := hotR (hot O ρ1 (ioList ioB os')) rs vs) (ρ' := ρ) (k := p.1) (f := id) (M' := Cx.M { P := P, T := T, O := O, I := lentBlk ρ0 os, ρ0 := ρ0, w0 := w, r := none, tm := fun _ => undef }) (fun b _ hb => hHs b hb) (fun x v hx => RepL_move (fun b _ hb => hHs b hb) (Stays.refl _ _) (fun _ _ => rfl) hx) rfl (fun b hb => (hown.lt hb).1)
      rw [OObj.map_id] at h5
      refine leq_io hu hle hpio h5 e.symm (fun i hi hi2 => ?_) (fun b hb => (hown.lt hb).1)
      obtain ⟨u', hu', e'⟩ := hρk i hi hi2
      simp only [virt, hu', e']
    · exact ioList_pairwise (fun i j => i ≠ j ∧ ∀ b, Blk (ρ1 i) b → ¬ Blk (ρ1 j) b) os' ioB (fun i j h1 h2 h3 => by
        refine ⟨by omega, fun b hb hjb => ?_⟩
        obtain ⟨u, hu, e, _⟩ := hthere (i, os'[i - ioB]'(by omega)) (mem_ioList.2 ⟨h1, by simp⟩)
        obtain ⟨u', hu', e', _⟩ := hthere (j, os'[j - ioB]'(by omega)) (mem_ioList.2 ⟨by simp only; omega, by simp⟩)
        simp only at e e' hu hu'
        rw [← e] at hb; rw [← e'] at hjb
        exact hfit.two (p := (i, u)) (q := (j, u')) (get?_mem hu) (get?_mem hu') (by simp only; omega) hb hjb)
    · obtain ⟨p, hp, hpb⟩ := hb
      obtain ⟨u, hu, e, hge, _⟩ := hthere p hp
      rw [← e] at hpb
      obtain ⟨id, _, hb2, hlt, o, ho⟩ := g3 b hbr
      exact hfit.two (p := (id, o)) (q := (p.1, u)) (get?_mem ho) (get?_mem hu) (by simp only; omega) hb2 hpb
  cases e with
  | normal => obtain ⟨l, h1, h3⟩ := h1; exact leaves_of _ a w' rfl (h2.freezeAll l) (fun a' w' _ hd hst => fin _ h1 h3 a' w' hd hst)
  | ret => obtain ⟨l, h1, h3⟩ := h1; exact leaves_of _ a w' rfl (h2.freezeAll l) (fun a' w' _ hd hst => fin _ h1 h3 a' w' hd hst)
  | exit i => exact h1.elim
  | goto l => exact h1.elim
  | panic ch => exact h1.elim
  | outgrown => exact h1.elim

theorem valid_of_J {P : Program} {T : Tab} (hT : TabOK P T) {f : FuncId} {fn : Func} {code : Code} {c : Con} (hf : P.funcs[f]? = some fn) (hb : fn.body = some code) (hN : T.N = fn.ntmps) (hkeep : T.keep = [])
    (h : ∀ (args : List LV) (os : List OObj) (C : Prop) (rs : List RV) (os' : List OObj), c args os = some (C, rs, os') → C → args.length ≤ T.N ∧ os'.length = os.length ∧ ∀ X : Cx, X.P = P → X.T = T → X.r = none → J X code { env := argEnv 0 args, own := ioList ioB os } (Ends T fn rs os')) (hfree : T.free = [] := by rfl) : Valid T.base P f c :=
  valid_of_Jx hT hf hb hN hkeep (fun k _ hk => by rw [hfree] at hk; simp at hk) (fun args os C rs os' hc hC => by
    obtain ⟨h1, h2, h3⟩ := h args os C rs os' hc hC
    exact ⟨h1, h2, .inl hfree, h3⟩)

end Go.Cm
end

section
/- The table of a walk, checked: types, elements, callees. -/
namespace Go.Cm
open Go.RowKit

theorem info_of {P : Program} {T n : Nat} {z : Option Value} (h : (P.info? T).map (fun i => (i.size, i.zero)) = some (n, z)) : ∃ i, P.info? T = some i ∧ i.size = n ∧ i.zero = z := by
  cases hi : P.info? T with
  | none => simp [hi] at h
  | some i => simp [hi] at h; exact ⟨i, rfl, h.1, h.2⟩

section
variable {P : Program} {T : TypeId}

theorem ty_int {k : IntKind} (h : (P.info? T).map (fun i => (i.size, i.zero)) = some (1, some (.int k 0))) (hd : P.underlying T = some (.int k)) : TyOK P T (.int k) := by
  obtain ⟨i, h1, h2, h3⟩ := info_of h
  exact ⟨i, _, h1, hd, h2, rfl, h3, rfl⟩

theorem ty_bool (h : (P.info? T).map (fun i => (i.size, i.zero)) = some (1, some (.bool false))) (hd : P.underlying T = some .bool) : TyOK P T .bool := by
  obtain ⟨i, h1, h2, h3⟩ := info_of h
  exact ⟨i, _, h1, hd, h2, rfl, h3, rfl⟩

theorem ty_str (h : (P.info? T).map (fun i => (i.size, i.zero)) = some (1, some (.string ⟨#[]⟩))) (hd : P.underlying T = some .string) : TyOK P T .str := by
  obtain ⟨i, h1, h2, h3⟩ := info_of h
  exact ⟨i, _, h1, hd, h2, rfl, h3, rfl⟩

theorem ty_opt {E : TypeId} {t : Ty} (h : (P.info? T).map (fun i => (i.size, i.zero)) = some (1, some (.pointer none))) (hd : P.underlying T = some (.pointer E)) : TyOK P T (.opt t) := by
  obtain ⟨i, h1, h2, h3⟩ := info_of h
  exact ⟨i, _, h1, hd, h2, rfl, h3, E, rfl⟩

theorem ty_func (h : (P.info? T).map (fun i => (i.size, i.zero)) = some (1, some .nilFunc)) (hd : ∃ a b c, P.underlying T = some (.func a b c)) : TyOK P T .func := by
  obtain ⟨i, h1, h2, h3⟩ := info_of h
  obtain ⟨a, b, c, hd⟩ := hd
  exact ⟨i, _, h1, hd, h2, rfl, h3, a, b, c, rfl⟩

theorem ty_ptr {E : TypeId} {t : Ty} (h : (P.info? T).map (fun i => (i.size, i.zero)) = some (1, some (.pointer none))) (hd : P.underlying T = some (.pointer E)) : TyOK P T (.ptr t) := by
  obtain ⟨i, h1, h2, h3⟩ := info_of h
  exact ⟨i, _, h1, hd, h2, rfl, h3, E, rfl⟩

theorem ty_slice {E : TypeId} {t : Ty} (h : (P.info? T).map (fun i => (i.size, i.zero)) = some (1, some (.slice none 0 0))) (hd : P.underlying T = some (.slice E))
    (he : (P.info? E).map (fun i => (i.size, i.zero)) = some (t.w, some (mkV t.isAgg t.zeroCells))) (hb : (P.info? E).map (fun i => decide (i.bytes ≤ 24 * t.w)) = some true) (hw : t.isAgg = true ∨ t.w = 1) : TyOK P T (.slice t) := by
  obtain ⟨i, h1, h2, h3⟩ := info_of h
  obtain ⟨j, g1, g2, g3⟩ := info_of he
  rw [g1] at hb
  have hb : j.bytes ≤ 24 * t.w := by simpa using hb
  exact ⟨i, _, h1, hd, h2, rfl, h3, E, j, rfl, g1, g2, hb, g3, fun h => hw.resolve_left (by simp [h])⟩

theorem ty_arr {E n : Nat} {t : Ty} (h : (P.info? T).map (fun i => (i.size, i.zero)) = some (n * t.w, some (.agg (List.replicate n t.zeroCells).flatten.toArray))) (hd : P.underlying T = some (.array n E))
    (he : (P.info? E).map (fun i => i.size) = some t.w) (hr : (P.underlying E).map TypeDesc.isRow = some t.isAgg) (hw : t.isAgg = true ∨ t.w = 1) : TyOK P T (.arr n t) := by
  obtain ⟨i, h1, h2, h3⟩ := info_of h
  cases hj : P.info? E with
  | none => simp [hj] at he
  | some j =>
    cases hu : P.underlying E with
    | none => simp [hu] at hr
    | some d' =>
      simp [hj] at he
      simp [hu] at hr
      exact ⟨i, _, h1, hd, h2, rfl, h3, E, j, d', rfl, hj, he, hu, hr, fun h => hw.resolve_left (by simp [h])⟩

/-- Does a field lie as its type tells? -/
def fieldOK (P : Program) (t : Ty) (fs : Array Field) (k : Nat) : Bool :=
  match fs[k]? with
  | some f => match P.info? f.type, P.underlying f.type with
    | some j, some e => (f.offset == t.fieldOff k) && (j.size == (t.fieldTy k).w) && (j.size != 0) && (e.isRow == (t.fieldTy k).isAgg) && ((t.fieldTy k).isAgg || ((t.fieldTy k).w == 1))
    | _, _ => false
  | none => false

def fieldsOK (P : Program) (T : TypeId) (t : Ty) : Bool :=
  match P.underlying T with
  | some (.struct fs) => (fs.size == t.fields.length) && (List.range t.fields.length).all (fieldOK P t fs)
  | _ => false

theorem ty_st {t : Ty} (h : (P.info? T).map (fun i => (i.size, i.zero)) = some (t.w, some (.agg t.zeroCells.toArray))) (hf : fieldsOK P T t = true) : TyOK P T (.st t) := by
  obtain ⟨i, h1, h2, h3⟩ := info_of h
  unfold fieldsOK at hf
  split at hf
  · rename_i fs hd
    simp only [Bool.and_eq_true, beq_iff_eq, List.all_eq_true, List.mem_range] at hf
    refine ⟨i, _, h1, hd, h2, rfl, h3, fs, rfl, hf.1, fun k hk => ?_⟩
    have := hf.2 k hk
    unfold fieldOK at this
    split at this
    · rename_i f hfk
      split at this
      · rename_i j e hj he
        simp only [Bool.and_eq_true, Bool.or_eq_true, beq_iff_eq, bne_iff_ne] at this
        obtain ⟨⟨⟨⟨a1, a2⟩, a3⟩, a4⟩, a5⟩ := this
        exact ⟨f, j, e, hfk, a1, hj, a2, a3, he, a4, fun h => a5.resolve_left (by simp [h])⟩
      · cases this
    · cases this
  · cases hf
end

section
variable {P : Program} {B : Base}

theorem types_nil : ∀ t u, get? ([] : List (TypeId × Ty)) t = some u → TyOK P t u := fun _ _ h => by simp [get?] at h
theorem types_cons {T : TypeId} {t : Ty} {l : List (TypeId × Ty)} (h : TyOK P T t) (hl : ∀ t u, get? l t = some u → TyOK P t u) : ∀ t' u, get? ((T, t) :: l) t' = some u → TyOK P t' u := by
  intro t' u he
  simp only [get?] at he
  split at he
  · rename_i e; cases he; subst e; exact h
  · exact hl _ _ he
theorem elems_nil : ∀ t e, get? ([] : List (TypeId × TypeId)) t = some e → P.underlying t = some (.slice e) := fun _ _ h => by simp [get?] at h
theorem elems_cons {T E : TypeId} {l : List (TypeId × TypeId)} (h : P.underlying T = some (.slice E)) (hl : ∀ t e, get? l t = some e → P.underlying t = some (.slice e)) : ∀ t e, get? ((T, E) :: l) t = some e → P.underlying t = some (.slice e) := by
  intro t' u he
  simp only [get?] at he
  split at he
  · rename_i e; cases he; subst e; exact h
  · exact hl _ _ he

/-- A callee: it meets its contract, and has a body. -/
structure CalOK (B : Base) (P : Program) (f : FuncId) (c : Con) (fr : List Nat := []) : Prop where
  valid : Valid B P f c fr
  body : ∃ fn, P.funcs[f]? = some fn ∧ (fn.name == "runtime.NumGoroutine") = false ∧ fn.body.isNone = false

theorem cal_ok {f : FuncId} {fn : Func} {c : Con} {fr : List Nat} (hf : P.funcs[f]? = some fn) (hn : (fn.name == "runtime.NumGoroutine") = false) (hb : fn.body.isNone = false) (hv : Valid B P f c fr) : CalOK B P f c fr := ⟨hv, fn, hf, hn, hb⟩

theorem cals_nil {F : FuncId → List Nat} : ∀ f c, get? ([] : List (FuncId × Con)) f = some c → CalOK B P f c (F f) := fun _ _ h => by simp [get?] at h
theorem cals_cons {F : FuncId → List Nat} {f : FuncId} {c : Con} {l : List (FuncId × Con)} (h : CalOK B P f c (F f)) (hl : ∀ f c, get? l f = some c → CalOK B P f c (F f)) : ∀ f' c', get? ((f, c) :: l) f' = some c' → CalOK B P f' c' (F f') := by
  intro f' c' he
  simp only [get?] at he
  split at he
  · rename_i e; cases he; subst e; exact h
  · exact hl _ _ he

theorem cons_ok {T : Tab} (h : ∀ f c, get? T.cons f = some c → CalOK T.base P f c ((get? T.frees f).getD [])) : ConsOK P T := ⟨fun f c e => (h f c e).valid, fun f c e => (h f c e).body⟩
theorem cons_nil {T : Tab} (h : T.cons = []) : ConsOK P T := cons_ok (by rw [h]; intro f c hc; simp [get?] at hc)
end

end Go.Cm
end
