/- GraphReaches: the whole card, with no condition. -/
import Derived.Test.YtcopdikdkkdlfaaDoorQ4
import Derived.Test.YtcopdikdkkdlfaaDoorQ3
import Derived.MapKept
import Derived.Test.YtcopdikdkkdlfaaDoorProg
import Derived.Test.YtcopdikdkkdlfaaDoorQ5
import Derived.WalkKit
set_option linter.all false
set_option linter.unusedSimpArgs false
set_option linter.unusedVariables false

section
/- What the laws ask, in plain words. No program is in sight. -/
namespace Go.Cm.Gr
open Go.Cm
theorem shr_fit {m n : Nat} (h : m < 2 ^ n) (hn : n ≤ 32) : ((m : Int)).fdiv (2 ^ (min ((n : Int)).toNat IntKind.u64.bits)) = 0 := by
  rw [Int.toNat_natCast, shr64 (by omega), shr_zero.2 h]; rfl
theorem one_raw {v : Nat} (hv : v < 32) : IntKind.u64.wrap (1 * 2 ^ (min ((v : Int)).toNat IntKind.u64.bits)) = ((1 <<< v : Nat) : Int) := by
  rw [Int.toNat_natCast, shl1 (by omega)]
theorem one_ok {g : Gph} (hg : Val g) {v : Nat} (hv : v < g.length) : U64 (IntKind.u64.wrap (1 * 2 ^ (min ((v : Int)).toNat IntKind.u64.bits))) ∧ (IntKind.u64.wrap (1 * 2 ^ (min ((v : Int)).toNat IntKind.u64.bits))).toNat < 2 ^ g.length := by
  have := hg.most
  rw [one_raw (by omega), Int.toNat_natCast]
  exact ⟨u64_nat (one_lt32 (by omega)), one_lt hv⟩
theorem bit_is {m v : Nat} (hm : m < 2 ^ 64) (hv : v ≤ 64) : IntKind.u64.wrap ((BitVec.ofInt IntKind.u64.bits (((m : Int)).fdiv (2 ^ (min ((v : Int)).toNat IntKind.u64.bits))) &&& BitVec.ofInt IntKind.u64.bits 1).toNat : Int) = if m.testBit v = true then 1 else 0 := by
  rw [Int.toNat_natCast]; exact bit64 hm hv
theorem bit_eq1 {m v : Nat} (hm : m < 2 ^ 64) (hv : v ≤ 64) : (IntKind.u64.wrap ((BitVec.ofInt IntKind.u64.bits (((m : Int)).fdiv (2 ^ (min ((v : Int)).toNat IntKind.u64.bits))) &&& BitVec.ofInt IntKind.u64.bits 1).toNat : Int) == 1) = m.testBit v := by
  rw [bit_is hm hv]; cases m.testBit v <;> rfl
theorem bit_eq0 {m v : Nat} (hm : m < 2 ^ 64) (hv : v ≤ 64) : (IntKind.u64.wrap ((BitVec.ofInt IntKind.u64.bits (((m : Int)).fdiv (2 ^ (min ((v : Int)).toNat IntKind.u64.bits))) &&& BitVec.ofInt IntKind.u64.bits 1).toNat : Int) == 0) = !m.testBit v := by
  rw [bit_is hm hv]; cases m.testBit v <;> rfl
theorem back_lt {g : Gph} (s : Nat) : back g s < 2 ^ g.length := mask_lt _ _
theorem lt64 {g : Gph} (hg : Val g) {s : Nat} (hs : s < 2 ^ g.length) : s < 2 ^ 64 := Nat.lt_trans (lt32 hg hs) (by decide)
theorem turn_eq {g : Gph} (hg : Val g) {s v : Nat} (hs : s < 2 ^ g.length) (hv : v < g.length) : (IntKind.u64.wrap ((BitVec.ofInt IntKind.u64.bits (reach g (IntKind.u64.wrap (1 * 2 ^ (min ((v : Int)).toNat IntKind.u64.bits))).toNat : Int) &&& BitVec.ofInt IntKind.u64.bits (s : Int)).toNat : Int) != 0) = (IntKind.u64.wrap ((BitVec.ofInt IntKind.u64.bits (((back g s : Nat) : Int).fdiv (2 ^ (min ((v : Int)).toNat IntKind.u64.bits))) &&& BitVec.ofInt IntKind.u64.bits 1).toNat : Int) == 1) := by
  have := hg.most
  rw [bit_eq1 (lt64 hg (back_lt s)) (by omega), one_raw (by omega), Int.toNat_natCast]
  have h := hits_iff hg (u64_nat (lt32 hg hs)) hv
  rw [Int.toNat_natCast] at h
  have hb : (back g s).testBit v = hits g s v := by
    rw [← back_mask, mask_bit]; simp [hv]
  rw [hb]
  cases hh : hits g s v with
  | false => rw [h.2 hh]; rfl
  | true =>
    rw [bne_iff_ne]
    intro e
    rw [h.1 e] at hh; cases hh
end Go.Cm.Gr
end

section
/- GraphDivides and GraphReaches in plain words. No program is in sight. -/
namespace Go.Cm.Gr
open Go.Cm
def pairG (g : Gph) (d : Dft) (i : Nat) : Gph := if i = 0 then fewG g else gD d
theorem pair_at {g : Gph} {d : Dft} {i : Nat} (h : i < 2) : nth (.slice (.slice (.int .i64))) [fewG g, gD d] (i : Int) = pairG g d i := by
  rcases i with _ | _ | i
  · rfl
  · rfl
  · omega
theorem few_lens (g : Gph) : (fewG g).length ≤ 33 ∧ ∀ r ∈ fewG g, r.length ≤ 33 := by
  refine ⟨by simp [fewG, List.length_take]; omega, fun r hr => ?_⟩
  obtain ⟨r', _, rfl⟩ := List.mem_map.1 hr
  rw [List.length_take]; omega
theorem pair_lens (g : Gph) (d : Dft) (i : Nat) : (pairG g d i).length ≤ 1000000 ∧ ∀ r ∈ pairG g d i, r.length ≤ 1000000 := by
  unfold pairG
  split
  · exact ⟨by have := (few_lens g).1; omega, fun r hr => by have := (few_lens g).2 r hr; omega⟩
  · have hv := draft_val d
    refine ⟨by have := hv.most; omega, fun r hr => ?_⟩
    have := okRow_len (hv.rows r hr) (by have := hv.one; omega)
    have := hv.most
    omega
theorem parts_m {g : Gph} (hg : Val g) : (partsG g).length ≤ 1000000 := Nat.le_trans (parts_lims hg).1 (by decide)
theorem bot_m {g : Gph} (hg : Val g) : (botG g).length ≤ 1000000 := Nat.le_trans (List.length_filter_le _ _) (parts_m hg)
theorem ord_m {g : Gph} (hg : Val g) : (ordV g).length ≤ 1000000 := by
  unfold ordV
  split
  · rename_i l h
    rw [List.length_map, grd_len h]
    have := hg.most; omega
  · simp
theorem ord_last (g : Gph) : (ordB g && ordE g != 0 || !ordB g && (ordE g != 81 || ((ordV g).length : Int) != 0)) = false := by
  unfold ordB ordE ordV
  cases ordG g <;> rfl
/-- A small part of a set; the error that the reference asks for. -/
def subV (s : Int) (x : Gph) : Nat := (s.toNat &&& 1023) >>> (10 - x.length)
def nOf (x : Gph) (t : Int) : Int := if okG x = true then (if t.toNat < 2 ^ x.length then 0 else 2) else 80
theorem sub_lt (s : Int) (x : Gph) : subV s x < 1024 := by
  unfold subV
  rw [Nat.shiftRight_eq_div_pow]
  refine Nat.lt_of_le_of_lt (Nat.div_le_self _ _) ?_
  have := Nat.and_le_right (n := s.toNat) (m := 1023)
  omega
theorem sub_u (s : Int) (x : Gph) : U64 (subV s x : Int) := by have := sub_lt s x; exact ⟨by omega, by omega⟩
theorem pair_u {s : Int} {x : Gph} (hs : U64 s) {j : Nat} (h : j < 2) : U64 (nth (.int .u64) [s, (subV s x : Int)] (j : Int)) := by
  rcases j with _ | _ | j
  · exact hs
  · exact sub_u s x
  · omega
theorem sub_raw {s : Int} (hs : U64 s) {x : Gph} (hx : x.length ≤ 1000000) : (IntKind.u64.wrap ((BitVec.ofInt IntKind.u64.bits s &&& BitVec.ofInt IntKind.u64.bits 1023).toNat : Int)).fdiv (2 ^ (min (Int.toNat (max 0 (IntKind.i64.wrap (10 - (x.length : Int))))) IntKind.u64.bits)) = (subV s x : Int) := by
  obtain ⟨m, rfl, hm⟩ := hs.nat
  have e : IntKind.u64.wrap ((BitVec.ofInt IntKind.u64.bits (m : Int) &&& BitVec.ofInt IntKind.u64.bits 1023).toNat : Int) = ((m &&& 1023 : Nat) : Int) := and64 hm (b := 1023) (by omega)
  have e2 : Int.toNat (max 0 (IntKind.i64.wrap (10 - (x.length : Int)))) = 10 - x.length := by
    rw [wi (by omega) (by omega)]; omega
  rw [e, e2, shr64 (by omega)]
  unfold subV
  rw [Int.toNat_natCast]
theorem rd_n (x : Gph) (t : Int) : rdE x [t] = nOf x t := by
  unfold rdE nOf setsOK
  by_cases h : okG x = true
  · rw [if_pos h, if_pos h]; simp
  · rw [if_neg h, if_neg h]
theorem n_80 (x : Gph) (t : Int) : (nOf x t != 80) = okG x := by
  unfold nOf
  cases okG x with
  | false => rfl
  | true => rw [if_pos rfl]; split <;> rfl
theorem check_ne (x : Gph) (t : Int) : (rdE x [] != (if (nOf x t != 80) = true then 0 else 80)) = false := by
  rw [n_80]
  unfold rdE setsOK
  cases okG x <;> rfl
theorem n_zero {x : Gph} {t : Int} (h : nOf x t = 0) : Val x ∧ t.toNat < 2 ^ x.length := by
  unfold nOf at h
  by_cases h1 : okG x = true
  · rw [if_pos h1] at h
    by_cases h2 : t.toNat < 2 ^ x.length
    · exact ⟨okG_iff.1 h1, h2⟩
    · rw [if_neg h2] at h; cases h
  · rw [if_neg h1] at h; cases h
end Go.Cm.Gr
end

section
/- A drawn region by an invariant over the sets of operations that are done. No program is in sight. -/
namespace Go.Cm

theorem region_inv {F : Fence} {n : Nat} {P : Program} (hm : P.follows .mixedOrders = true) {id : Nat} {ops : Array Oper} {Q : Exit → Act → World → Prop} (I : (Nat → Bool) → Act → World → Prop)
    (hcong : ∀ p q a w, (∀ k, k < ops.size → p k = q k) → I p a w → I q a w)
    (hguard : ∀ (i : Nat) (o : Oper), ops[i]? = some o → o.guard = none)
    (hback : ∀ (i : Nat) (o : Oper), ops[i]? = some o → ∀ e ∈ o.after.toList, Region.binds .any e = true → e.on < i)
    (hstep : ∀ (i : Nat) (o : Oper), ops[i]? = some o → ∀ p a w (K : Act → World → Prop), I p a w → p i = false → (∀ e ∈ o.after.toList, Region.binds .any e = true → p e.on = true) → (∀ a' w', I (fun k => if k = i then true else p k) a' w' → K a' w') → o.wpIn F n P a w K Q)
    (hend : ∀ p a w, (∀ k, k < ops.size → p k = true) → I p a w → Q .normal a w)
    {a : Act} {w : World} (h0 : I (fun _ => false) a { w with drawn := w.drawn + 1 }) : (Code.region id ops true).wpIn F n P Q a w := by
  have hget : ∀ (listed : Array Bool) (i k : Nat), listed.size = ops.size → i < ops.size → k < ops.size → (listed.setIfInBounds i true).getD k true = (if k = i then true else listed.getD k true) := by
    intro listed i k hls hi hk
    simp only [Array.getD_eq_getD_getElem?, Array.getElem?_setIfInBounds]
    by_cases e : i = k
    · subst e; simp [hls, hi]
    · have e' : ¬ k = i := fun h => e h.symm
      simp [e, e']
  have hready : ∀ (listed : Array Bool), listed.size = ops.size → Region.ready .any ops listed = [] → ∀ k, k < ops.size → listed.getD k true = true := by
    intro listed hls hr k
    induction k using Nat.strongRecOn with
    | _ k ih =>
      intro hk
      cases hp : listed.getD k true with
      | true => rfl
      | false =>
        have ho : ops[k]? = some ops[k] := Array.getElem?_eq_getElem hk
        have : k ∈ Region.ready .any ops listed := by
          unfold Region.ready
          rw [List.mem_filter]
          refine ⟨List.mem_range.2 hk, ?_⟩
          simp only [hp, Bool.not_false, Bool.true_and, ho, Option.map_some, Option.getD_some]
          rw [Array.all_eq_true_iff_forall_mem]
          intro e he
          by_cases hb : Region.binds .any e = true
          · have hlt := hback k _ ho e (by simpa using he) hb
            have h1 := ih e.on hlt (by omega)
            rw [hb]
            simp only [Bool.not_true, Bool.false_or]
            have : e.on < listed.size := by omega
            rw [← h1]
            simp [Array.getD, this]
          · simp [hb]
        rw [hr] at this; simp at this
  have main : ∀ (fuel : Nat) (listed : Array Bool) (a : Act) (w : World), listed.size = ops.size →
      (∃ l : List Nat, l.Nodup ∧ ops.size ≤ fuel + l.length ∧ ∀ k ∈ l, k < ops.size ∧ listed.getD k true = true) → I (fun k => listed.getD k true) a w →
      wpAnyIn F n P .any ops Q fuel listed a w := by
    intro fuel
    induction fuel with
    | zero =>
      intro listed a w hls ⟨l, hl1, hl2, hl3⟩ hI
      have hall : ∀ k, k < ops.size → listed.getD k true = true := by
        intro k hk
        by_cases hkl : k ∈ l
        · exact (hl3 k hkl).2
        · have hsub : (k :: l).Nodup := List.nodup_cons.2 ⟨hkl, hl1⟩
          have hle := (List.Nodup.length_le_of_subset hsub (l₂ := List.range ops.size) (fun x hx => by
            rcases List.mem_cons.1 hx with rfl | hx
            · exact List.mem_range.2 hk
            · exact List.mem_range.2 (hl3 x hx).1))
          simp at hle; omega
      refine ⟨?_, hend _ a w hall hI⟩
      unfold Region.ready
      rw [List.filter_eq_nil_iff]
      intro k hk
      rw [hall k (List.mem_range.1 hk)]; simp
    | succ fuel ih =>
      intro listed a w hls ⟨l, hl1, hl2, hl3⟩ hI
      refine ⟨fun hr => hend _ a w (hready listed hls hr) hI, fun i hi => ?_⟩
      unfold Region.ready at hi
      rw [List.mem_filter] at hi
      obtain ⟨hi1, hi2⟩ := hi
      have hin : i < ops.size := List.mem_range.1 hi1
      have ho : ops[i]? = some ops[i] := Array.getElem?_eq_getElem hin
      simp only [ho, Option.map_some, Option.getD_some, Bool.and_eq_true, Bool.not_eq_true'] at hi2
      obtain ⟨hnot, hedges⟩ := hi2
      unfold wpOpIn
      simp only [ho]
      have hw : Region.wanted ops[i] (yielded ops a.tmps) = true := by simp [Region.wanted, hguard i _ ho]
      rw [if_pos hw]
      refine hstep i _ ho (fun k => listed.getD k true) a w _ hI hnot (fun e he hb => ?_) (fun a' w' hI' => ih _ a' w' (by simpa using hls) ?_ ?_)
      · rw [Array.all_eq_true_iff_forall_mem] at hedges
        have := hedges e (by simpa using he)
        rw [hb] at this
        simp only [Bool.not_true, Bool.false_or] at this
        have hlt := hback i _ ho e he hb
        have hsize : e.on < listed.size := by omega
        simp [Array.getD, hsize] at this ⊢; exact this
      · have hil : i ∉ l := fun hmem => by have := (hl3 i hmem).2; rw [hnot] at this; cases this
        refine ⟨i :: l, List.nodup_cons.2 ⟨hil, hl1⟩, by simp; omega, fun k hk => ?_⟩
        rcases List.mem_cons.1 hk with rfl | hk
        · exact ⟨hin, by rw [hget _ _ _ hls hin hin]; simp⟩
        · have := hl3 k hk
          refine ⟨this.1, ?_⟩
          rw [hget _ _ _ hls hin this.1]
          split
          · rfl
          · exact this.2
      · exact hcong _ _ _ _ (fun k hk => (hget listed i k hls hin hk).symm) hI'
  refine wpIn_region_any hm (main ops.size _ a _ (by simp) ⟨[], .nil, by simp, fun k hk => by simp at hk⟩ (hcong _ _ _ _ (fun k hk => ?_) h0))
  rw [Array.getD_eq_getD_getElem?, Array.getElem?_replicate, if_pos hk]; rfl

/-- A state that says less. -/
theorem St.sub {X : Cx} {s s' : AState} {a : Act} {w : World} (h : St X s a w) (he : ∀ e ∈ s'.env, e ∈ s.env) (ho : s'.own = s.own) : St X s' a w := by
  obtain ⟨ρ, hf⟩ := h.fits
  refine ⟨h.marks, h.kept, h.size, h.below, h.others, h.small, ρ, fun e hm => ?_, ?_, ?_, ?_⟩
  · rw [ho]; exact hf.env e (he e hm)
  · rw [ho]; exact hf.own
  · rw [ho]; exact hf.io
  · rw [ho]; exact hf.apart

/-- A map that nothing tells of is changed. -/
theorem St.setMap {X : Cx} {s : AState} {a : Act} {w : World} (h : St X s a w) {m : Nat} {es es' : Array MapEntry} {clk clk' : Nat} (hm : w.heap[m]? = some (.map es clk)) (hM : X.w0.heap.size ≤ m) : St X s a { w with heap := w.heap.setIfInBounds m (.map es' clk') } := by
  obtain ⟨ρ, hf⟩ := h.fits
  have hs := MapKept.heap_set (o' := .map es' clk') hm
  refine ⟨⟨fun d hd => ?_, h.marks.apart⟩, h.kept, h.size, ⟨h.below.os, h.below.tape, h.below.output, by show _ ≤ (w.heap.setIfInBounds m _).size; rw [Array.size_setIfInBounds]; exact h.below.size, fun k hk hn => ?_⟩, h.others, h.small, ρ, hf.cells (fun k hk => ?_)⟩
  · obtain ⟨D, h1, h2, h3⟩ := h.marks.each d hd
    refine ⟨D, h1, h2, ?_⟩
    have hne : D ≠ m := by rintro rfl; rw [hm] at h3; cases h3
    exact (hs.2 D hne).trans h3
  · have hne : k ≠ m := by rintro rfl; omega
    exact (hs.2 k hne).trans (h.below.block k hk hn)
  · have hne : k ≠ m := by
      rintro rfl
      obtain ⟨o, h1, h2⟩ := hk
      rw [hm] at h1; cases h1; cases h2
    exact hs.2 k hne
end Go.Cm
end

section
/- The region of GraphReaches that makes a map, fills it and looks into it: its operations in every order. -/
namespace Go.Proofs.YtcopdikdkkdlfaaDoor
open Go Go.Cm Go.Cm.Gr Go.Proofs
abbrev SGm : Ty := .slice (.slice (.int .i64))
def m0 : Oper := { dst := some 68, op := .move (.tmp 8), type := 27, pos := "law.go:39", after := #[], guard := none }
def m1 : Oper := { dst := some 69, op := .call { callee := .value (.func 20), args := #[.tmp 68], argTypes := #[27] }, type := 32, pos := "law.go:39", after := #[{ on := 0, ground := .data }], guard := none }
def m2 : Oper := { dst := some 70, op := .makeMap 54 none, type := 54, pos := "law.go:39", after := #[], guard := none }
def m3 : Oper := { dst := none, op := .insert 54 (.tmp 70) (.const (.bool true)) (.const (.int .i64 0)), type := 0, pos := "law.go:39", after := #[{ on := 2, ground := .data }], guard := none }
def m4 : Oper := { dst := none, op := .insert 54 (.tmp 70) (.const (.bool false)) (.const (.int .i64 80)), type := 0, pos := "law.go:39", after := #[{ on := 2, ground := .data }], guard := none }
def m5 : Oper := { dst := some 71, op := .move (.tmp 70), type := 54, pos := "law.go:39", after := #[{ on := 2, ground := .data }, { on := 3, ground := .data }, { on := 4, ground := .data }], guard := none }
def m6 : Oper := { dst := some 72, op := .move (.tmp 18), type := 4, pos := "law.go:39", after := #[], guard := none }
def m7 : Oper := { dst := some 73, op := .lookup 54 (.tmp 71) (.tmp 72) false, type := 32, pos := "law.go:39", after := #[{ on := 5, ground := .data }, { on := 6, ground := .data }], guard := none }
def m8 : Oper := { dst := some 74, op := .binOp .neq 32 (.tmp 69) (.tmp 73) 32, type := 4, pos := "law.go:39", after := #[{ on := 1, ground := .data }, { on := 7, ground := .data }], guard := none }
def ops18 : Array Oper := #[m0, m1, m2, m3, m4, m5, m6, m7, m8]

theorem u54 : Tryd.prog.underlying 54 = some (.map 4 32) := by kernel_rfl
theorem u4 : Tryd.prog.underlying 4 = some .bool := by kernel_rfl

/-! the entries -/
def kv (es : Array MapEntry) : List (Value × Value) := es.toList.map fun e => (e.key, e.val)
def eT : Value × Value := (.bool true, .int .i64 0)
def eF : Value × Value := (.bool false, .int .i64 80)
def EsAt : Bool → Bool → Array MapEntry → Prop
  | false, false, es => kv es = []
  | true, false, es => kv es = [eT]
  | false, true, es => kv es = [eF]
  | true, true, es => kv es = [eT, eF] ∨ kv es = [eF, eT]
def findKV (k : Value) : List (Value × Value) → Nat → Option (Option (Nat × Value))
  | [], _ => some none
  | e :: r, i => match Instr.sameNow .bool k e.1 with
    | some true => some (some (i, e.2))
    | some false => findKV k r (i + 1)
    | none => none
theorem find_kv (k : Value) : ∀ (l : List MapEntry) (i : Nat), Instr.findNow .bool k l i = findKV k (l.map fun e => (e.key, e.val)) i
  | [], _ => rfl
  | e :: r, i => by
    simp only [Instr.findNow, List.map_cons, findKV]
    rw [find_kv k r (i + 1)]
    cases Instr.sameNow .bool k e.key with
    | none => rfl
    | some b => cases b <;> rfl
theorem find_T {f : Bool} {es : Array MapEntry} (h : EsAt false f es) : Instr.findNow .bool (.bool true) es.toList 0 = some none := by
  rw [find_kv]
  cases f <;> (rw [show es.toList.map (fun e => (e.key, e.val)) = _ from h]; rfl)
theorem find_F {t : Bool} {es : Array MapEntry} (h : EsAt t false es) : Instr.findNow .bool (.bool false) es.toList 0 = some none := by
  rw [find_kv]
  cases t <;> (rw [show es.toList.map (fun e => (e.key, e.val)) = _ from h]; rfl)
theorem put_T {f : Bool} {es : Array MapEntry} {n : Nat} (h : EsAt false f es) : EsAt true f (es.push ⟨.bool true, .int .i64 0, n⟩) := by
  have e : kv (es.push ⟨.bool true, .int .i64 0, n⟩) = kv es ++ [eT] := by simp [kv, eT]
  cases f
  · have h : kv es = [] := h
    show kv _ = _
    rw [e, h]; rfl
  · have h : kv es = [eF] := h
    exact .inr (by rw [e, h]; rfl)
theorem put_F {t : Bool} {es : Array MapEntry} {n : Nat} (h : EsAt t false es) : EsAt t true (es.push ⟨.bool false, .int .i64 80, n⟩) := by
  have e : kv (es.push ⟨.bool false, .int .i64 80, n⟩) = kv es ++ [eF] := by simp [kv, eF]
  cases t
  · have h : kv es = [] := h
    show kv _ = _
    rw [e, h]; rfl
  · have h : kv es = [eT] := h
    exact .inl (by rw [e, h]; rfl)
theorem find_at {es : Array MapEntry} (h : EsAt true true es) (b : Bool) : ∃ i, Instr.findNow .bool (.bool b) es.toList 0 = some (some (i, .int .i64 (if b = true then 0 else 80))) := by
  rw [find_kv]
  rcases h with h | h <;> cases b
  · exact ⟨1, by rw [show es.toList.map (fun e => (e.key, e.val)) = _ from h]; rfl⟩
  · exact ⟨0, by rw [show es.toList.map (fun e => (e.key, e.val)) = _ from h]; rfl⟩
  · exact ⟨0, by rw [show es.toList.map (fun e => (e.key, e.val)) = _ from h]; rfl⟩
  · exact ⟨1, by rw [show es.toList.map (fun e => (e.key, e.val)) = _ from h]; rfl⟩

/-! the operations on the map -/
theorem check_b {w : World} {b e : Bool} : (Instr.checkKey e 10000 4 (.bool b)).run Tryd.prog w = .ok () w := MapKept.run_checkKey (k := .bool b) u4 trivial e 9999
theorem run_insert {w : World} {m : Nat} {es : Array MapEntry} {clk : Nat} {b : Bool} {v : Value} (hb : w.heap[m]? = some (.map es clk)) (hf : Instr.findNow .bool (.bool b) es.toList 0 = some none) :
    (Instr.mapUpdate 54 (.map (some m)) (.bool b) v).run Tryd.prog w = .ok () { w with heap := w.heap.setIfInBounds m (.map (es.push ⟨.bool b, v, clk⟩) (clk + 1)) } := by
  simp [Instr.mapUpdate, run_underlying u54, MapKept.run_getObj_map hb, check_b, MapKept.run_findKey u4 hf, MapKept.run_setObj_map _ hb, Result.andThen]
theorem run_look {w : World} {m : Nat} {es : Array MapEntry} {clk i : Nat} {b : Bool} {v : Value} (hb : w.heap[m]? = some (.map es clk)) (hf : Instr.findNow .bool (.bool b) es.toList 0 = some (some (i, v))) :
    (Instr.lookup 54 (.map (some m)) (.bool b) false).run Tryd.prog w = .ok v w := by
  simp [Instr.lookup, run_underlying u54, MapKept.run_getObj_map hb, check_b, MapKept.run_findKey u4 hf, Result.andThen]
theorem run_make (w : World) : (Instr.makeMap 54 none).run Tryd.prog w = .ok (.map (some w.heap.size)) (w.alloc (.map #[] 0)) := by
  rfl

/-! the region in every order -/
def L18 (x : Gph) (b : Bool) : List (Nat × Nat × AV) := [(0, 68, .l (.z SGm x)), (1, 69, .l (.z (.int .i64) (rdE x []))), (6, 72, .l (.z .bool b)), (7, 73, .l (.z (.int .i64) (if b = true then 0 else 80))), (8, 74, .l (.z .bool (rdE x [] != (if b = true then 0 else 80))))]
def sp (s : AState) (x : Gph) (b : Bool) (p : Nat → Bool) : AState := { env := ((L18 x b).filter (fun q => p q.1)).map Prod.snd ++ s.env, own := s.own }
theorem mem_sp {s : AState} {x : Gph} {b : Bool} {p : Nat → Bool} {e : Nat × AV} : e ∈ (sp s x b p).env ↔ (∃ q ∈ L18 x b, p q.1 = true ∧ q.2 = e) ∨ e ∈ s.env := by
  unfold sp
  simp only [List.mem_append, List.mem_map, List.mem_filter]
  constructor
  · rintro (⟨q, ⟨h1, h2⟩, h3⟩ | h)
    · exact .inl ⟨q, h1, h2, h3⟩
    · exact .inr h
  · rintro (⟨q, h1, h2, h3⟩ | h)
    · exact .inl ⟨q, ⟨h1, h2⟩, h3⟩
    · exact .inr h
theorem l18_cases {x : Gph} {b : Bool} {q : Nat × Nat × AV} (h : q ∈ L18 x b) : q = (0, 68, .l (.z SGm x)) ∨ q = (1, 69, .l (.z (.int .i64) (rdE x []))) ∨ q = (6, 72, .l (.z .bool b)) ∨ q = (7, 73, .l (.z (.int .i64) (if b = true then 0 else 80))) ∨ q = (8, 74, .l (.z .bool (rdE x [] != (if b = true then 0 else 80)))) := by
  simpa [L18] using h
theorem l18_range {x : Gph} {b : Bool} {q : Nat × Nat × AV} (h : q ∈ L18 x b) : 68 ≤ q.2.1 ∧ q.2.1 ≤ 74 ∧ q.2.1 ≠ 70 ∧ q.2.1 ≠ 71 := by
  rcases l18_cases h with rfl | rfl | rfl | rfl | rfl <;> (dsimp only; omega)
theorem l18_two {x : Gph} {b : Bool} {q r : Nat × Nat × AV} (h : q ∈ L18 x b) (k : r ∈ L18 x b) : (q.1 = r.1 → q = r) ∧ (q.1 ≠ r.1 → q.2.1 ≠ r.2.1) := by
  rcases l18_cases h with rfl | rfl | rfl | rfl | rfl <;> rcases l18_cases k with rfl | rfl | rfl | rfl | rfl <;> (refine ⟨fun e => ?_, fun e => ?_⟩ <;> dsimp only at e ⊢ <;> first | rfl | omega)
theorem sub_put {s : AState} {x : Gph} {b : Bool} {p : Nat → Bool} {i d : Nat} {v : AV} (h : (i, d, v) ∈ L18 x b) (hs : ∀ e ∈ s.env, e.1 < 68 ∨ 74 < e.1) : ∀ e ∈ (sp s x b (fun k => if k = i then true else p k)).env, e ∈ ((sp s x b p).put d v).env := by
  intro e he
  have hr := l18_range h
  simp only [AState.put, List.mem_cons, mem_del]
  rcases mem_sp.1 he with ⟨q, h1, h2, h3⟩ | h1
  · subst h3
    by_cases hq : q.1 = i
    · have : q = (i, d, v) := (l18_two h1 h).1 hq
      subst this; exact .inl rfl
    · rw [if_neg hq] at h2
      exact .inr ⟨mem_sp.2 (.inl ⟨q, h1, h2, rfl⟩), (l18_two h1 h).2 hq⟩
  · refine .inr ⟨mem_sp.2 (.inr h1), ?_⟩
    have := hs e h1
    dsimp only at hr
    omega
theorem sub_other {s : AState} {x : Gph} {b : Bool} {p : Nat → Bool} {i : Nat} (h : ∀ q ∈ L18 x b, q.1 ≠ i) : ∀ e ∈ (sp s x b (fun k => if k = i then true else p k)).env, e ∈ (sp s x b p).env := by
  intro e he
  rcases mem_sp.1 he with ⟨q, h1, h2, h3⟩ | h1
  · rw [if_neg (h q h1)] at h2
    exact mem_sp.2 (.inl ⟨q, h1, h2, h3⟩)
  · exact mem_sp.2 (.inr h1)
theorem sub_junk {s : AState} {x : Gph} {b : Bool} {p : Nat → Bool} {d : Nat} {v : AV} (hd : d = 70 ∨ d = 71) (hs : ∀ e ∈ s.env, e.1 < 68 ∨ 74 < e.1) : ∀ e ∈ (sp s x b p).env, e ∈ ((sp s x b p).put d v).env := by
  intro e he
  simp only [AState.put, List.mem_cons, mem_del]
  refine .inr ⟨he, ?_⟩
  rcases mem_sp.1 he with ⟨q, h1, h2, h3⟩ | h1
  · subst h3
    have := l18_range h1
    omega
  · have := hs e h1; omega

def Mf (X : Cx) (p : Nat → Bool) (a : Act) (w : World) : Prop :=
  (p 3 = true → p 2 = true) ∧ (p 4 = true → p 2 = true) ∧ (p 5 = true → p 3 = true ∧ p 4 = true ∧ a.tmps.getD 71 undef = a.tmps.getD 70 undef) ∧
    (p 2 = true → ∃ m es clk, a.tmps.getD 70 undef = .map (some m) ∧ X.w0.heap.size ≤ m ∧ w.heap[m]? = some (.map es clk) ∧ EsAt (p 3) (p 4) es)
theorem Mf.keep {X : Cx} {p p' : Nat → Bool} {a a' : Act} {w w' : World} (h : Mf X p a w) (h2 : p' 2 = p 2) (h3 : p' 3 = p 3) (h4 : p' 4 = p 4) (h5 : p' 5 = p 5) (h70 : a'.tmps.getD 70 undef = a.tmps.getD 70 undef) (h71 : a'.tmps.getD 71 undef = a.tmps.getD 71 undef)
    (hw : ∀ m, m < w.heap.size → w'.heap[m]? = w.heap[m]?) : Mf X p' a' w' := by
  unfold Mf
  rw [h2, h3, h4, h5, h70, h71]
  refine ⟨h.1, h.2.1, h.2.2.1, fun hp => ?_⟩
  obtain ⟨m, es, clk, q1, q2, q3, q4⟩ := h.2.2.2 hp
  exact ⟨m, es, clk, q1, q2, (hw m (Array.getElem?_eq_some_iff.1 q3).1).trans q3, q4⟩
theorem Mf.slot {X : Cx} {p p' : Nat → Bool} {a : Act} {w : World} {d : Nat} {v : Value} (h : Mf X p a w) (h2 : p' 2 = p 2) (h3 : p' 3 = p 3) (h4 : p' 4 = p 4) (h5 : p' 5 = p 5) (hd : d ≠ 70 ∧ d ≠ 71) : Mf X p' (a.put (some d) v) w :=
  h.keep h2 h3 h4 h5 (Act.getD_put_ne (fun e => hd.1 e.symm)) (Act.getD_put_ne (fun e => hd.2 e.symm)) (fun _ _ => rfl)

theorem isNum : ∀ {i : Nat} {o : Oper}, ops18[i]? = some o → (i = 0 ∧ o = m0) ∨ (i = 1 ∧ o = m1) ∨ (i = 2 ∧ o = m2) ∨ (i = 3 ∧ o = m3) ∨ (i = 4 ∧ o = m4) ∨ (i = 5 ∧ o = m5) ∨ (i = 6 ∧ o = m6) ∨ (i = 7 ∧ o = m7) ∨ (i = 8 ∧ o = m8)
  | 0, _, h => by cases h; exact .inl ⟨rfl, rfl⟩
  | 1, _, h => by cases h; exact .inr (.inl ⟨rfl, rfl⟩)
  | 2, _, h => by cases h; exact .inr (.inr (.inl ⟨rfl, rfl⟩))
  | 3, _, h => by cases h; exact .inr (.inr (.inr (.inl ⟨rfl, rfl⟩)))
  | 4, _, h => by cases h; exact .inr (.inr (.inr (.inr (.inl ⟨rfl, rfl⟩))))
  | 5, _, h => by cases h; exact .inr (.inr (.inr (.inr (.inr (.inl ⟨rfl, rfl⟩)))))
  | 6, _, h => by cases h; exact .inr (.inr (.inr (.inr (.inr (.inr (.inl ⟨rfl, rfl⟩))))))
  | 7, _, h => by cases h; exact .inr (.inr (.inr (.inr (.inr (.inr (.inr (.inl ⟨rfl, rfl⟩)))))))
  | 8, _, h => by cases h; exact .inr (.inr (.inr (.inr (.inr (.inr (.inr (.inr ⟨rfl, rfl⟩)))))))
  | _ + 9, _, h => by cases h

theorem region18 {B : Base} (hB : Tabs B) {X : Cx} (hG : MGood X.P X.T) (hP : X.P = Tryd.prog) (hbase : X.T.base = B) (hok : ∀ d, 68 ≤ d → d ≤ 74 → X.T.ok d = true) (h32 : get? X.T.types 32 = some (.int .i64)) {s : AState} {x : Gph} {b : Bool} (h8 : get? s.env 8 = some (.l (.z SGm x))) (h18 : get? s.env 18 = some (.l (.z .bool b)))
    (hs0 : (s.env.all fun e => decide (e.1 < 68) || decide (74 < e.1)) = true) (hL : List.length x ≤ 1000000 ∧ ∀ r ∈ x, List.length r ≤ 1000000) {K : Exit → AState → Prop} (hK : K .normal { s with env := (74, .l (.z .bool (rdE x [] != (if b = true then 0 else 80)))) :: s.env }) : J X (.region 18 ops18 true) s K := by
  have hs : ∀ e ∈ s.env, e.1 < 68 ∨ 74 < e.1 := fun e he => by simpa using List.all_eq_true.1 hs0 e he
  intro a w hst
  refine region_inv hG.mixed (fun p a w => St X (sp s x b p) a w ∧ Mf X p a w) ?_ ?_ ?_ ?_ ?_ ?_
  · rintro p q a w hpq ⟨h1, h2⟩
    have e : sp s x b p = sp s x b q := by
      unfold sp L18
      simp only [List.filter_cons, hpq 0 (by decide), hpq 1 (by decide), hpq 6 (by decide), hpq 7 (by decide), hpq 8 (by decide), List.filter_nil]
    exact ⟨e ▸ h1, h2.keep (hpq 2 (by decide)).symm (hpq 3 (by decide)).symm (hpq 4 (by decide)).symm (hpq 5 (by decide)).symm rfl rfl (fun _ _ => rfl)⟩
  · intro i o ho
    rcases isNum ho with ⟨_, rfl⟩ | ⟨_, rfl⟩ | ⟨_, rfl⟩ | ⟨_, rfl⟩ | ⟨_, rfl⟩ | ⟨_, rfl⟩ | ⟨_, rfl⟩ | ⟨_, rfl⟩ | ⟨_, rfl⟩ <;> rfl
  · intro i o ho e he _
    rcases isNum ho with ⟨rfl, rfl⟩ | ⟨rfl, rfl⟩ | ⟨rfl, rfl⟩ | ⟨rfl, rfl⟩ | ⟨rfl, rfl⟩ | ⟨rfl, rfl⟩ | ⟨rfl, rfl⟩ | ⟨rfl, rfl⟩ | ⟨rfl, rfl⟩ <;> simp [m0, m1, m2, m3, m4, m5, m6, m7, m8] at he <;> (try rcases he with rfl | rfl | rfl) <;> (try rcases he with rfl | rfl) <;> (try subst he) <;> simp
  · rintro i o ho p a w K' ⟨h1, h2⟩ hpi hdone hK'
    obtain ⟨ρ, hf⟩ := h1.fits
    have hin : ∀ {q : Nat × Nat × AV}, q ∈ L18 x b → p q.1 = true → RepV (hot X.O ρ s.own) w ρ q.2.2 (a.tmps.getD q.2.1 undef) := fun hq hp => hf.env _ (mem_sp.2 (.inl ⟨_, hq, hp, rfl⟩))
    have hold : ∀ {k v}, get? s.env k = some v → RepV (hot X.O ρ s.own) w ρ v (a.tmps.getD k undef) := fun hk => hf.env _ (mem_sp.2 (.inr (get?_mem hk)))
    have d1 : ∀ k, (∃ e ∈ o.after.toList, e.on = k ∧ Region.binds .any e = true) → p k = true := fun k ⟨e, h3, h4, h5⟩ => h4 ▸ hdone e h3 h5
    rcases isNum ho with ⟨rfl, rfl⟩ | ⟨rfl, rfl⟩ | ⟨rfl, rfl⟩ | ⟨rfl, rfl⟩ | ⟨rfl, rfl⟩ | ⟨rfl, rfl⟩ | ⟨rfl, rfl⟩ | ⟨rfl, rfl⟩ | ⟨rfl, rfl⟩
    · -- the graph
      refine wp_of_value (v := a.tmps.getD 8 undef) (w' := w) (by unfold execOp; rfl) (hK' _ _ ⟨?_, h2.slot rfl rfl rfl rfl (by decide)⟩)
      exact (h1.put hf (hok 68 (by decide) (by decide)) (hold h8)).sub (sub_put (i := 0) (d := 68) (v := .l (.z SGm x)) (by simp [L18]) hs) rfl
    · -- the check
      have q0 := hin (q := (0, 68, .l (.z SGm x))) (by simp [L18]) (d1 0 ⟨_, List.mem_cons_self .., rfl, rfl⟩)
      have hno : ∀ c, ¬ lentBlk (fun _ => undef) [] c := fun c ⟨q, hq, _⟩ => by simp [ioList] at hq
      have hv := valid20 (B := X.T.base) (by rw [hbase]; exact hB) [.z SGm x] [] _ _ [] rfl hL (fun _ => False) w #[a.tmps.getD 68 undef] (fun _ => undef) h1.on (fun c hc => (hno c hc).elim) (fun _ h => h.elim) (fun _ h => h.elim)
        ⟨RepL_move (fun c _ hc => by
          rcases hc with hc | ⟨q, hq, _⟩
          · exact hc.elim
          · simp [ioList] at hq) (Stays.refl _ _) (fun _ _ => rfl) q0, trivial⟩ (fun q hq => by simp [ioList] at hq) List.Pairwise.nil
      have hn : ¬ Tryd.f20.name = "runtime.NumGoroutine" := by have h : (Tryd.f20.name == "runtime.NumGoroutine") = false := by kernel_rfl
                                                               simpa using h
      have hbn : ¬ Tryd.f20.body = none := by intro e; have h : Tryd.f20.body.isNone = false := by kernel_rfl
                                              rw [e] at h; cases h
      have hent : (execOp a.eval m1).run X.P w = .ok (.enter 20 #[a.tmps.getD 68 undef]) w := by
        rw [hP]; unfold execOp
        simp [m1, resolve, Act.eval, Deferred.ofValue, invoke, callFunc, Tryd.func20, hn, hbn]
      refine wp_of_enter hent ?_
      rw [hP]
      refine hv.mono ?_
      rintro e w' ⟨vs, ρ1, rfl, -, hb, -, hr, -⟩
      refine ⟨_, rfl, hK' _ _ ?_⟩
      have hk : ∀ k, k < w.heap.size → w'.heap[k]? = w.heap[k]? := fun k hk => hb.block k hk (fun hm => hm.elim (fun h => by omega) (hno k))
      obtain ⟨v, rfl, hv1⟩ : ∃ v, vs = [v] ∧ v = .int .i64 (rdE x []) := by
        match vs, hr with
        | [v], hr => exact ⟨v, rfl, int_val (ρ := fun _ => undef) hr.1⟩
      subst hv1
      have hko : KeepsOthers w w' := KeepsOthers.of_bel hb (fun c hlt hm => hm.elim (fun h => by omega) (fun h => (hno c h).elim))
      refine ⟨(h1.next (hok 69 (by decide) (by decide)) hko (h1.below.trans hb (fun c hc hm => hm.elim (fun h => by have := h1.below.size; omega) (fun h => (hno c h).elim))) ((hf.keep hk).put (v := .l (.z (.int .i64) (rdE x []))) (val := .int .i64 (rdE x [])) (by rw [h1.size]; exact Tab.ok_lt (hok 69 (by decide) (by decide))) (rep_int (ρ := ρ)))).sub (sub_put (i := 1) (by simp [L18]) hs) rfl, h2.keep rfl rfl rfl rfl (Act.getD_put_ne (by decide)) (Act.getD_put_ne (by decide)) hk⟩
    · -- the map
      have hp3 : p 3 = false := by
        cases h : p 3 with
        | false => rfl
        | true => rw [h2.1 h] at hpi; cases hpi
      have hp4 : p 4 = false := by
        cases h : p 4 with
        | false => rfl
        | true => rw [h2.2.1 h] at hpi; cases hpi
      refine wp_of_value (v := .map (some w.heap.size)) (w' := w.alloc (.map #[] 0)) (by rw [hP]; unfold execOp; exact run_value (run_make w)) (hK' _ _ ⟨?_, fun _ => rfl, fun _ => rfl, fun h => ?_, fun _ => ?_⟩)
      · refine (h1.next (hok 70 (by decide) (by decide)) (KeepsOthers.alloc _ _) (h1.below.alloc _) ((hf.keep (fun k hk => alloc_keep _ _ k hk)).put (v := .l .junk) (by rw [h1.size]; exact Tab.ok_lt (hok 70 (by decide) (by decide))) trivial)).sub (fun e he => sub_junk (.inl rfl) hs e (sub_other (i := 2) (fun q hq => ?_) e he)) rfl
        rcases l18_cases hq with rfl | rfl | rfl | rfl | rfl <;> (dsimp only; omega)
      · have h5 := (h2.2.2.1 h).1
        rw [hp3] at h5; cases h5
      · refine ⟨w.heap.size, #[], 0, ?_, h1.below.size, heap_alloc_new _ _, ?_⟩
        · show (a.put (some 70) _).tmps.getD 70 undef = _
          rw [Act.getD_put (by rw [h1.size]; exact Tab.ok_lt (hok 70 (by decide) (by decide))), if_pos rfl]
        · show EsAt (p 3) (p 4) _
          rw [hp3, hp4]; rfl
    · -- right
      have hp2 := d1 2 ⟨_, List.mem_cons_self .., rfl, rfl⟩
      obtain ⟨m, es, clk, q1, q2, q3, q4⟩ := h2.2.2.2 hp2
      rw [hpi] at q4
      have hrun : (execOp a.eval m3).run X.P w = .ok .skip { w with heap := w.heap.setIfInBounds m (.map (es.push ⟨.bool true, .int .i64 0, clk⟩) (clk + 1)) } := by
        rw [hP]; unfold execOp
        have e : a.eval (.tmp 70) = .map (some m) := q1
        show ((Instr.mapUpdate 54 (a.eval (.tmp 70)) (.bool true) (.int .i64 0)) >>= fun _ => pure Next.skip).run _ _ = _
        rw [e, Sem.run_bind, run_insert q3 (find_T q4)]
        rfl
      refine wp_of_skip hrun (hK' _ _ ⟨?_, fun _ => hp2, h2.2.1, fun h => ?_, fun _ => ?_⟩)
      · refine (h1.setMap q3 q2).sub (sub_other (i := 3) (fun q hq => ?_)) rfl
        rcases l18_cases hq with rfl | rfl | rfl | rfl | rfl <;> (dsimp only; omega)
      · have h5 := (h2.2.2.1 h).1
        rw [hpi] at h5; cases h5
      · exact ⟨m, _, _, q1, q2, (MapKept.heap_set q3).1, put_T q4⟩
    · -- wrong
      have hp2 := d1 2 ⟨_, List.mem_cons_self .., rfl, rfl⟩
      obtain ⟨m, es, clk, q1, q2, q3, q4⟩ := h2.2.2.2 hp2
      rw [hpi] at q4
      have hrun : (execOp a.eval m4).run X.P w = .ok .skip { w with heap := w.heap.setIfInBounds m (.map (es.push ⟨.bool false, .int .i64 80, clk⟩) (clk + 1)) } := by
        rw [hP]; unfold execOp
        have e : a.eval (.tmp 70) = .map (some m) := q1
        show ((Instr.mapUpdate 54 (a.eval (.tmp 70)) (.bool false) (.int .i64 80)) >>= fun _ => pure Next.skip).run _ _ = _
        rw [e, Sem.run_bind, run_insert q3 (find_F q4)]
        rfl
      refine wp_of_skip hrun (hK' _ _ ⟨?_, h2.1, fun _ => hp2, fun h => ?_, fun _ => ?_⟩)
      · refine (h1.setMap q3 q2).sub (sub_other (i := 4) (fun q hq => ?_)) rfl
        rcases l18_cases hq with rfl | rfl | rfl | rfl | rfl <;> (dsimp only; omega)
      · have h5 := (h2.2.2.1 h).2.1
        rw [hpi] at h5; cases h5
      · exact ⟨m, _, _, q1, q2, (MapKept.heap_set q3).1, put_F q4⟩
    · -- the map's other name
      have hp3 := d1 3 ⟨_, List.mem_cons_of_mem _ (List.mem_cons_self ..), rfl, rfl⟩
      have hp4 := d1 4 ⟨_, List.mem_cons_of_mem _ (List.mem_cons_of_mem _ (List.mem_cons_self ..)), rfl, rfl⟩
      have e70 : (a.put (some 71) (a.tmps.getD 70 undef)).tmps.getD 70 undef = a.tmps.getD 70 undef := Act.getD_put_ne (by decide)
      refine wp_of_value (v := a.tmps.getD 70 undef) (w' := w) (by unfold execOp; rfl) (hK' _ _ ⟨?_, h2.1, h2.2.1, fun _ => ⟨hp3, hp4, ?_⟩, fun h => ?_⟩)
      · refine (h1.put hf (hok 71 (by decide) (by decide)) (v := .l .junk) trivial).sub (fun e he => sub_junk (.inr rfl) hs e (sub_other (i := 5) (fun q hq => ?_) e he)) rfl
        rcases l18_cases hq with rfl | rfl | rfl | rfl | rfl <;> (dsimp only; omega)
      · show (a.put (some 71) (a.tmps.getD 70 undef)).tmps.getD 71 undef = (a.put (some 71) (a.tmps.getD 70 undef)).tmps.getD 70 undef
        rw [e70, Act.getD_put (by rw [h1.size]; exact Tab.ok_lt (hok 71 (by decide) (by decide))), if_pos rfl]
      · obtain ⟨m, es, clk, q1, q2, q3, q4⟩ := h2.2.2.2 h
        exact ⟨m, es, clk, e70.trans q1, q2, q3, q4⟩
    · -- is it right
      refine wp_of_value (v := a.tmps.getD 18 undef) (w' := w) (by unfold execOp; rfl) (hK' _ _ ⟨?_, h2.slot rfl rfl rfl rfl (by decide)⟩)
      exact (h1.put hf (hok 72 (by decide) (by decide)) (hold h18)).sub (sub_put (i := 6) (d := 72) (v := .l (.z .bool b)) (by simp [L18]) hs) rfl
    · -- the look
      have hp5 := d1 5 ⟨_, List.mem_cons_self .., rfl, rfl⟩
      have hp6 := d1 6 ⟨_, List.mem_cons_of_mem _ (List.mem_cons_self ..), rfl, rfl⟩
      obtain ⟨hp3, hp4, e71⟩ := h2.2.2.1 hp5
      obtain ⟨m, es, clk, q1, q2, q3, q4⟩ := h2.2.2.2 (h2.1 hp3)
      rw [hp3, hp4] at q4
      obtain ⟨i, hfi⟩ := find_at q4 b
      have e72 : a.tmps.getD 72 undef = .bool b := bool_val (ρ := ρ) (hin (q := (6, 72, .l (.z .bool b))) (by simp [L18]) hp6)
      have hrun : (execOp a.eval m7).run X.P w = .ok (.value (.int .i64 (if b = true then 0 else 80))) w := by
        rw [hP]; unfold execOp
        have e1 : a.eval (.tmp 71) = .map (some m) := e71.trans q1
        have e2 : a.eval (.tmp 72) = .bool b := e72
        simp only [m7, e1, e2]
        exact run_value (run_look q3 hfi)
      refine wp_of_value hrun (hK' _ _ ⟨?_, h2.slot rfl rfl rfl rfl (by decide)⟩)
      exact (h1.put hf (hok 73 (by decide) (by decide)) (v := .l (.z (.int .i64) (if b = true then 0 else 80))) (val := .int .i64 (if b = true then 0 else 80)) (rep_int (ρ := ρ))).sub (sub_put (i := 7) (by simp [L18]) hs) rfl
    · -- the comparison
      have q1 := hin (q := (1, 69, .l (.z (.int .i64) (rdE x [])))) (by simp [L18]) (d1 1 ⟨_, List.mem_cons_self .., rfl, rfl⟩)
      have q7 := hin (q := (7, 73, .l (.z (.int .i64) (if b = true then 0 else 80)))) (by simp [L18]) (d1 7 ⟨_, List.mem_cons_of_mem _ (List.mem_cons_self ..), rfl, rfl⟩)
      have hf2 : Fits X { env := [(69, .l (.z (.int .i64) (rdE x []))), (73, .l (.z (.int .i64) (if b = true then 0 else 80)))], own := s.own } a w ρ := by
        refine ⟨fun e he => ?_, hf.own, hf.io, hf.apart⟩
        simp only [List.mem_cons, List.not_mem_nil, or_false] at he
        rcases he with rfl | rfl
        · exact q1
        · exact q7
      obtain ⟨val, hrun, hval⟩ := pureOp_ok hG.tab hf2 (o := m8) (C := True) (v := .l (.z .bool (rdE x [] != (if b = true then 0 else 80)))) (by simp [m8, pureOp, leaf, opnd, get?, binLV, intBin]) trivial
      refine wp_of_value hrun (hK' _ _ ⟨?_, h2.slot rfl rfl rfl rfl (by decide)⟩)
      exact (h1.put hf (hok 74 (by decide) (by decide)) hval).sub (sub_put (i := 8) (by simp [L18]) hs) rfl
  · rintro p a w hp ⟨h1, _⟩
    refine ⟨_, hK, h1.sub (fun e he => ?_) rfl⟩
    rcases List.mem_cons.1 he with rfl | he
    · exact mem_sp.2 (.inl ⟨(8, 74, _), by simp [L18], hp 8 (by decide), rfl⟩)
    · exact mem_sp.2 (.inr he)
  · refine ⟨(drew_st hst).sub (fun e he => ?_) rfl, fun h => (by cases h), fun h => (by cases h), fun h => (by cases h), fun h => (by cases h)⟩
    rcases mem_sp.1 he with ⟨_, _, h, _⟩ | he
    · cases h
    · exact he
end Go.Proofs.YtcopdikdkkdlfaaDoor
end

section
/- The functions of the package graph, one after the other: each meets its contract. -/
set_option linter.unusedSimpArgs false
set_option linter.unusedVariables false
set_option maxRecDepth 100000
namespace Go.Proofs.YtcopdikdkkdlfaaDoor
open Go Go.Cm Go.Cm.Gr Go.Proofs

def tab8 (B : Base) : Tab := { types := [(3, (.int .i64)), (4, .bool), (24, (.st (.pair (.int .u8) (.pair (.slice (.arr 2 (.int .u8))) .bool)))), (27, (.slice (.slice (.int .i64)))), (30, (.int .u64)), (32, (.int .i64)), (36, (.slice (.int .i64))), (50, (.arr 2 (.slice (.slice (.int .i64))))), (51, (.arr 2 (.int .u64)))], elems := [], cons := [(10, cWorks), (11, cDraft), (13, cBack), (14, cReach), (17, cFar), (20, cCheck), (24, cFew), (25, cRight), (26, cNodes), (27, cRefReach), (28, cRefBack), (29, cEq), (30, cRefFar)], hint := [], N := 137, base := B }
theorem good8 {B : Base} (hB : Tabs B) : MGood Tryd.prog (tab8 B) := ⟨⟨types_cons ty3 (types_cons ty4 (types_cons ty24 (types_cons ty27 (types_cons ty30 (types_cons ty32 (types_cons ty36 (types_cons ty50 (types_cons ty51 (types_nil))))))))), elems_nil, by simp only [tab8, ioB]; omega⟩, cons_ok (cals_cons (cal_ok Tryd.func10 (by kernel_rfl) rfl (valid10 hB)) (cals_cons (cal_ok Tryd.func11 (by kernel_rfl) rfl (valid11 hB)) (cals_cons (cal_ok Tryd.func13 (by kernel_rfl) rfl (valid13 hB)) (cals_cons (cal_ok Tryd.func14 (by kernel_rfl) rfl (valid14 hB)) (cals_cons (cal_ok Tryd.func17 (by kernel_rfl) rfl (valid17 hB)) (cals_cons (cal_ok Tryd.func20 (by kernel_rfl) rfl (valid20 hB)) (cals_cons (cal_ok Tryd.func24 (by kernel_rfl) rfl (valid24 hB)) (cals_cons (cal_ok Tryd.func25 (by kernel_rfl) rfl (valid25 hB)) (cals_cons (cal_ok Tryd.func26 (by kernel_rfl) rfl (valid26 hB)) (cals_cons (cal_ok Tryd.func27 (by kernel_rfl) rfl (valid27 hB)) (cals_cons (cal_ok Tryd.func28 (by kernel_rfl) rfl (valid28 hB)) (cals_cons (cal_ok Tryd.func29 (by kernel_rfl) rfl (valid29 hB)) (cals_cons (cal_ok Tryd.func30 (by kernel_rfl) rfl (valid30 hB)) (cals_nil)))))))))))))), by kernel_rfl⟩
def cReaches : Con := fun l os => match l, os with
  | [.z (.slice (.slice (.int .i64))) g, .z (.int .u64) s, .z (.st (.pair (.int .u8) (.pair (.slice (.arr 2 (.int .u8))) .bool))) d], [] => some (Dok d ∧ U64 s, [.z .bool true], [])
  | _, _ => none

set_option maxHeartbeats 4000000 in
theorem valid8 {B : Base} (hB : Tabs B) : Valid B Tryd.prog 8 cReaches := by
  refine valid_of_J (T := tab8 B) (good8 hB).tab Tryd.func8 rfl rfl rfl ?_
  intro args os C rs os' hc hC
  unfold cReaches at hc
  split at hc
  case h_2 => cases hc
  rename_i g s d
  cases hc
  refine ⟨by simp only [List.length_cons, List.length_nil, tab8]; omega, rfl, ?_⟩
  intro X hP hT hr
  have hG : MGood X.P X.T := by rw [hP, hT]; exact good8 hB
  unfold tab8 at hT
  have hX := And.intro (@cBack.eq_1) <| And.intro (@cCheck.eq_1) <| And.intro (@cDraft.eq_1) <| And.intro (@cEq.eq_1) <| And.intro (@cFar.eq_1) <| And.intro (@cFew.eq_1) <| And.intro (@cNodes.eq_1) <| And.intro (@cReach.eq_1) <| And.intro (@cRefBack.eq_1) <| And.intro (@cRefFar.eq_1) <| And.intro (@cRefReach.eq_1) <| And.intro (@cRight.eq_1) <| @cWorks.eq_1
  simp only [Tryd.f8, argEnv, ioList, ioB]
  refine r_seq ?_
  obtain ⟨hD, hU⟩ := hC
  have hv := draft_val d
  have n1 := hv.one
  have n2 := hv.most
  refine q_region hG ?_ ?_ -- R0
  · first | trivial | omega | (simp; done) | (simp; omega)
  refine k_seq ?_
  refine r_seq ?_
  refine r_seq ?_
  refine q_region hG ?_ ?_ -- R1
  · first | trivial | omega | (simp; done) | (simp; omega)
  refine k_seq ?_
  refine q_cond ?_ ?_
  · intro hb0
    cases hb0
  · intro hb0
    try simp only [decide_eq_true_eq, decide_eq_false_iff_not, beq_eq_false_iff_ne, bne_eq_false_iff_eq, Bool.not_eq_false', Bool.and_eq_false_imp] at hb0
    try simp only [nth_gi, nth_row] at hb0
    refine r_skip ?_
    refine k_seq ?_
    refine r_seq ?_
    refine r_seq ?_
    refine q_draw hG ?_ ?_ -- R3
    · try simp only [and_true, true_and]
      exact hD
    refine k_seq ?_
    refine j_block ?_
    refine j_loop (fun (z : Nat) => (⟨[(1, .l (.z (.int .u64) s)), (5, .l (.z (.ptr (.st (.pair (.int .u8) (.pair (.slice (.arr 2 (.int .u8))) .bool)))) d)), (6, .l (.z .bool false)), (25, .l (.z (.arr 2 (.slice (.slice (.int .i64)))) [fewG g, gD d])), (26, .l (.z (.int .i64) (z : Int)))], []⟩ : AState)) (fun z => z ≤ 2) (fun z => 2 - z) 0 ?_ ?_ ?_
    · simp only [ml0, ml1, Nat.reduceLT, Nat.reduceEqDiff, Nat.reduceAdd, Nat.reduceMul, Nat.reduceSub, Nat.reduceLeDiff, Nat.reduceBEq, Nat.reduceBNe, reduceIte, reduceDIte, reduceCtorEq]
      rfl
    · omega
    · rintro i g1
      try dsimp only at g1
      refine r_seq ?_
      refine q_region hG ?_ ?_ -- R4
      · first | trivial | omega | (simp; done) | (simp; omega)
      refine k_seq ?_
      refine r_seq ?_
      refine q_cond ?_ ?_
      · intro hb1
        try simp only [decide_eq_true_eq, decide_eq_false_iff_not, beq_iff_eq, bne_iff_ne, Bool.not_eq_true', Bool.and_eq_true] at hb1
        try simp only [nth_gi, nth_row] at hb1
        refine r_skip ?_
        refine k_seq ?_
        refine r_seq ?_
        refine j_block ?_
        refine r_seq ?_
        refine q_region hG ?_ ?_ -- R5
        · try simp only [and_true, true_and]
          omega
        refine k_seq ?_
        refine r_seq ?_
        rw [pair_at (show i < 2 by omega)]
        have hl := pair_lens g d i
        generalize pairG g d i = x at hl ⊢
        refine q_region hG ?_ ?_ -- R6
        · try simp only [and_true, true_and]
          omega
        refine k_seq ?_
        refine j_block ?_
        refine j_loop (fun (z : Nat) => (⟨[(1, .l (.z (.int .u64) s)), (5, .l (.z (.ptr (.st (.pair (.int .u8) (.pair (.slice (.arr 2 (.int .u8))) .bool)))) d)), (6, .l (.z .bool false)), (25, .l (.z (.arr 2 (.slice (.slice (.int .i64)))) [fewG g, gD d])), (26, .l (.z (.int .i64) (i : Int))), (8, .l (.z (.slice (.slice (.int .i64))) x)), (37, .l (.z (.arr 2 (.int .u64)) [s, (subV s x : Int)])), (38, .l (.z (.int .i64) (z : Int)))], []⟩ : AState)) (fun z => z ≤ 2) (fun z => 2 - z) 0 ?_ ?_ ?_
        · simp only [ml0, ml1, Nat.reduceLT, Nat.reduceEqDiff, Nat.reduceAdd, Nat.reduceMul, Nat.reduceSub, Nat.reduceLeDiff, Nat.reduceBEq, Nat.reduceBNe, reduceIte, reduceDIte, reduceCtorEq]
          exact ⟨by rw [sub_raw hU hl.1], rfl⟩
        · omega
        · rintro j g2
          try dsimp only at g2
          refine r_seq ?_
          refine q_region hG ?_ ?_ -- R7
          · first | trivial | omega | (simp; done) | (simp; omega)
          refine k_seq ?_
          refine r_seq ?_
          refine q_cond ?_ ?_
          · intro hb2
            try simp only [decide_eq_true_eq, decide_eq_false_iff_not, beq_iff_eq, bne_iff_ne, Bool.not_eq_true', Bool.and_eq_true] at hb2
            try simp only [nth_gi, nth_row] at hb2
            refine r_skip ?_
            refine k_seq ?_
            refine r_seq ?_
            refine j_block ?_
            refine r_seq ?_
            refine q_region hG ?_ ?_ -- R8
            · try simp only [and_true, true_and]
              omega
            refine k_seq ?_
            refine r_seq ?_
            have ht := pair_u (x := x) hU (show j < 2 by omega)
            generalize nth (.int .u64) [s, (subV s x : Int)] (j : Int) = t at ht ⊢
            refine q_region hG ?_ ?_ -- R9
            · try simp only [and_true, true_and]
              exact ⟨hl.1, hl.2, ht⟩
            refine k_seq ?_
            refine r_seq ?_
            refine q_region hG ?_ ?_ -- R10
            · try simp only [and_true, true_and]
              exact ⟨hl.1, hl.2, ht⟩
            refine k_seq ?_
            refine r_seq ?_
            refine q_region hG ?_ ?_ -- R11
            · try simp only [and_true, true_and]
              exact ⟨hl.1, hl.2, ht⟩
            refine k_seq ?_
            refine r_seq ?_
            refine q_region hG ?_ ?_ -- R12
            · first | trivial | omega | (simp; done) | (simp; omega)
            refine k_seq ?_
            refine r_cut (fun (z : Unit) => (⟨[(1, .l (.z (.int .u64) s)), (5, .l (.z (.ptr (.st (.pair (.int .u8) (.pair (.slice (.arr 2 (.int .u8))) .bool)))) d)), (6, .l (.z .bool false)), (25, .l (.z (.arr 2 (.slice (.slice (.int .i64)))) [fewG g, gD d])), (26, .l (.z (.int .i64) (i : Int))), (8, .l (.z (.slice (.slice (.int .i64))) x)), (37, .l (.z (.arr 2 (.int .u64)) [s, (subV s x : Int)])), (38, .l (.z (.int .i64) (j : Int))), (10, .l (.z (.int .u64) t)), (11, .l (.z (.int .u64) (if rdE x [t] = 0 then (reach x t.toNat : Int) else 0))), (12, .l (.z (.int .i64) (rdE x [t]))), (13, .l (.z (.int .u64) (if rdE x [t] = 0 then (back x t.toNat : Int) else 0))), (14, .l (.z (.int .i64) (rdE x [t]))), (15, .l (.z (.slice (.int .i64)) (if rdE x [t] = 0 then (far x t.toNat) else []))), (16, .l (.z (.int .i64) (rdE x [t]))), (17, .l (.z (.int .i64) (nOf x t)))], []⟩ : AState)) (fun z => True) ?_ ?_
            · refine r_seq ?_
              refine q_region hG ?_ ?_ -- R13
              · try simp only [and_true, true_and]
                exact hl
              refine k_seq ?_
              refine q_cond ?_ ?_
              · intro hb3
                try simp only [decide_eq_true_eq, decide_eq_false_iff_not, beq_iff_eq, bne_iff_ne, Bool.not_eq_true', Bool.and_eq_true] at hb3
                try simp only [nth_gi, nth_row] at hb3
                refine q_region hG ?_ ?_ -- R14
                · first | trivial | omega | (simp; done) | (simp; omega)
                show ∃ z, _
                simp only [ml0, ml1, Nat.reduceLT, Nat.reduceEqDiff, Nat.reduceAdd, Nat.reduceMul, Nat.reduceSub, Nat.reduceLeDiff, Nat.reduceBEq, Nat.reduceBNe, reduceIte, reduceDIte, reduceCtorEq]
                unfold nOf
                split <;> (try split) <;> simp_all
              · intro hb3
                try simp only [decide_eq_true_eq, decide_eq_false_iff_not, beq_eq_false_iff_ne, bne_eq_false_iff_eq, Bool.not_eq_false', Bool.and_eq_false_imp] at hb3
                try simp only [nth_gi, nth_row] at hb3
                refine r_seq ?_
                refine q_region hG ?_ ?_ -- R15
                · try simp only [and_true, true_and]
                  exact ⟨ht, (okG_iff.1 hb3).most⟩
                refine k_seq ?_
                refine q_cond ?_ ?_
                · intro hb4
                  try simp only [decide_eq_true_eq, decide_eq_false_iff_not, beq_iff_eq, bne_iff_ne, Bool.not_eq_true', Bool.and_eq_true] at hb4
                  try simp only [nth_gi, nth_row] at hb4
                  refine q_region hG ?_ ?_ -- R16
                  · first | trivial | omega | (simp; done) | (simp; omega)
                  show ∃ z, _
                  simp only [ml0, ml1, Nat.reduceLT, Nat.reduceEqDiff, Nat.reduceAdd, Nat.reduceMul, Nat.reduceSub, Nat.reduceLeDiff, Nat.reduceBEq, Nat.reduceBNe, reduceIte, reduceDIte, reduceCtorEq]
                  unfold nOf
                  split <;> (try split) <;> simp_all
                · intro hb4
                  try simp only [decide_eq_true_eq, decide_eq_false_iff_not, beq_eq_false_iff_ne, bne_eq_false_iff_eq, Bool.not_eq_false', Bool.and_eq_false_imp] at hb4
                  try simp only [nth_gi, nth_row] at hb4
                  refine r_skip ?_
                  show ∃ z, _
                  simp only [ml0, ml1, Nat.reduceLT, Nat.reduceEqDiff, Nat.reduceAdd, Nat.reduceMul, Nat.reduceSub, Nat.reduceLeDiff, Nat.reduceBEq, Nat.reduceBNe, reduceIte, reduceDIte, reduceCtorEq]
                  unfold nOf
                  split <;> (try split) <;> simp_all
            rintro ⟨⟩ -
            refine r_seq ?_
            refine r_seq ?_
            refine q_region hG ?_ ?_ -- R17
            · first | trivial | omega | (simp; done) | (simp; omega)
            refine k_seq ?_
            refine r_seq ?_
            refine region18 hB hG hP (by rw [hT]) (by rw [hT]; intro d h1 h2; simp only [Tab.ok]; simp; omega) (by rw [hT]; rfl) (by rfl) (by rfl) (by rfl) hl ?_
            dsimp only
            refine k_seq ?_
            refine q_cond ?_ ?_
            · intro hb5
              exact absurd hb5 (Bool.eq_false_iff.1 (check_ne x t))
            · intro hb5
              try simp only [decide_eq_true_eq, decide_eq_false_iff_not, beq_eq_false_iff_ne, bne_eq_false_iff_eq, Bool.not_eq_false', Bool.and_eq_false_imp] at hb5
              try simp only [nth_gi, nth_row] at hb5
              refine r_skip ?_
              refine k_seq ?_
              refine r_seq ?_
              refine r_seq ?_
              refine q_region hG ?_ ?_ -- R20
              · first | trivial | omega | (simp; done) | (simp; omega)
              refine k_seq ?_
              refine q_cond ?_ ?_
              · intro hb6
                try simp only [decide_eq_true_eq, decide_eq_false_iff_not, beq_iff_eq, bne_iff_ne, Bool.not_eq_true', Bool.and_eq_true] at hb6
                try simp only [nth_gi, nth_row] at hb6
                refine r_seq ?_
                refine r_seq ?_
                refine q_region hG ?_ ?_ -- R21
                · try simp only [and_true, true_and]
                  (repeat' (first | apply And.intro | intro _)) <;> first | assumption | omega | (rename_i h; rw [h]; rfl) | (rename_i h1 h2; rw [h1, h2]; rfl)
                refine k_seq ?_
                refine q_cond ?_ ?_
                · intro hb7
                  exfalso
                  simp [rd_n, hb6] at hb7
                · intro hb7
                  try simp only [decide_eq_true_eq, decide_eq_false_iff_not, beq_eq_false_iff_ne, bne_eq_false_iff_eq, Bool.not_eq_false', Bool.and_eq_false_imp] at hb7
                  try simp only [nth_gi, nth_row] at hb7
                  refine r_skip ?_
                  refine k_seq ?_
                  refine r_exit ?_
                  refine k_seq_exit ?_
                  refine k_block_exit ?_
                  refine k_seq ?_
                  refine q_region hG ?_ ?_ -- R25
                  · first | trivial | omega | (simp; done) | (simp; omega)
                  show ∃ z, _
                  simp only [ml0, ml1, Nat.reduceLT, Nat.reduceEqDiff, Nat.reduceAdd, Nat.reduceMul, Nat.reduceSub, Nat.reduceLeDiff, Nat.reduceBEq, Nat.reduceBNe, reduceIte, reduceDIte, reduceCtorEq]
                  exact ⟨j + 1, by rw [wi (by omega) (by omega)]; simp, by omega, by omega⟩
              · intro hb6
                try simp only [decide_eq_true_eq, decide_eq_false_iff_not, beq_eq_false_iff_ne, bne_eq_false_iff_eq, Bool.not_eq_false', Bool.and_eq_false_imp] at hb6
                try simp only [nth_gi, nth_row] at hb6
                obtain ⟨hw, hlt⟩ := n_zero hb6
                have r0 : rdE x [t] = 0 := (rd_n x t).trans hb6
                simp only [r0, if_true]
                refine r_skip ?_
                refine k_seq ?_
                refine r_seq ?_
                refine q_region hG ?_ ?_ -- R23
                · try simp only [and_true, true_and]
                  (repeat' (first | apply And.intro | intro _)) <;> first | assumption | omega | (rename_i h; rw [h]; rfl) | (rename_i h1 h2; rw [h1, h2]; rfl) | exact hw | exact hlt | exact ht.1 | exact ht.2 | (rw [far_len]; have := hw.most; omega)
                refine k_seq ?_
                refine q_cond ?_ ?_
                · intro hb8
                  exfalso
                  simp at hb8
                · intro hb8
                  try simp only [decide_eq_true_eq, decide_eq_false_iff_not, beq_eq_false_iff_ne, bne_eq_false_iff_eq, Bool.not_eq_false', Bool.and_eq_false_imp] at hb8
                  try simp only [nth_gi, nth_row] at hb8
                  refine r_skip ?_
                  refine k_block ?_
                  refine k_seq ?_
                  refine q_region hG ?_ ?_ -- R25
                  · first | trivial | omega | (simp; done) | (simp; omega)
                  show ∃ z, _
                  simp only [ml0, ml1, Nat.reduceLT, Nat.reduceEqDiff, Nat.reduceAdd, Nat.reduceMul, Nat.reduceSub, Nat.reduceLeDiff, Nat.reduceBEq, Nat.reduceBNe, reduceIte, reduceDIte, reduceCtorEq]
                  exact ⟨j + 1, by rw [wi (by omega) (by omega)]; simp, by omega, by omega⟩
          · intro hb2
            try simp only [decide_eq_true_eq, decide_eq_false_iff_not, beq_eq_false_iff_ne, bne_eq_false_iff_eq, Bool.not_eq_false', Bool.and_eq_false_imp] at hb2
            try simp only [nth_gi, nth_row] at hb2
            refine r_exit ?_
            refine k_seq_exit ?_
            refine k_round_exit ?_
            refine k_block_exit ?_
            refine k_block ?_
            refine k_seq ?_
            refine q_region hG ?_ ?_ -- R26
            · first | trivial | omega | (simp; done) | (simp; omega)
            show ∃ z, _
            simp only [ml0, ml1, Nat.reduceLT, Nat.reduceEqDiff, Nat.reduceAdd, Nat.reduceMul, Nat.reduceSub, Nat.reduceLeDiff, Nat.reduceBEq, Nat.reduceBNe, reduceIte, reduceDIte, reduceCtorEq]
            exact ⟨i + 1, by rw [wi (by omega) (by omega)]; simp, by omega, by omega⟩
      · intro hb1
        try simp only [decide_eq_true_eq, decide_eq_false_iff_not, beq_eq_false_iff_ne, bne_eq_false_iff_eq, Bool.not_eq_false', Bool.and_eq_false_imp] at hb1
        try simp only [nth_gi, nth_row] at hb1
        refine r_exit ?_
        refine k_seq_exit ?_
        refine k_round_exit ?_
        refine k_block_exit ?_
        refine k_seq ?_
        refine r_seq ?_
        refine q_region hG ?_ ?_ -- R27
        · first | trivial | omega | (simp; done) | (simp; omega)
        refine k_seq ?_
        refine r_ret ?_
        refine ⟨[], ?_⟩
        simp only [hT, tab8, mr0, mr1, mr2, isNilP, Nat.reduceLT, Nat.reduceEqDiff, Nat.reduceAdd, Nat.reduceMul, Nat.reduceSub, Nat.reduceLeDiff, Nat.reduceBEq, Nat.reduceBNe, reduceIte, reduceDIte, reduceCtorEq]

end Go.Proofs.YtcopdikdkkdlfaaDoor
end

section
/- The law GraphReaches: its row, its card. -/
namespace Go.Proofs.YtcopdikdkkdlfaaDoor.graphReaches
open Go Go.Cm Go.Cm.Gr Go.Proofs Go.ChangeShapes Go.WideShapes Go.ChangeAt Go.RowKit Go.Deep Go.Joins
set_option maxRecDepth 100000

theorem own : ownKnob Tryd.prog.godebug = none := by kernel_rfl
theorem rets : Tryd.f8.resultTypes = #[4] := by kernel_rfl
theorem bools : Tryd.prog.underlying 4 = some .bool := by kernel_rfl
def tys : List Ty := [(.slice (.slice (.int .i64))), (.int .u64), (.st (.pair (.int .u8) (.pair (.slice (.arr 2 (.int .u8))) .bool)))]
theorem reads : rdAll Tryd.prog tys Tryd.f8.params.toList = true := by kernel_rfl
theorem spec : TrueSpec Rows.graphReachesSpec tys.length := ⟨rfl, fun _ ds h => match ds, h with | [a0, a1, a2], _ => rfl⟩
abbrev vals : Array Value := #[.slice none 0 0, .int .u64 0, .agg #[.int .u8 0, .slice none 0 0, .bool false]]
theorem met (os : Os) : laidMet Tryd.prog Rows.graphReachesRow.laid ((lawWorld os).forCall (fun _ _ => 0) ⟨#[], vals, []⟩).memory :=
  laidMet_of_run3 8 (by kernel_rfl) (by kernel_rfl) (by kernel_rfl)
theorem witness (os : Os) {H : Type} (enc : TypeId × Value → H) : ∃ places, DataW.whole enc Tryd.prog ((lawWorld os).forCall (fun _ _ => 0) ⟨#[], vals, []⟩).memory Tryd.f8.params.toList Rows.graphReachesSpec.vars false vals.toList 8 = some ([.nil, .lit (.int .u64 0), .agg [.lit (.int .u8 0), .nil, .lit (.bool false)]], [], places) :=
  ⟨[], by kernel_rfl⟩
theorem tabs {W : World} (h : laidMetH Tryd.prog Rows.graphReachesRow.laid W) : Tabs (lawBase W) := by
  have hL : laidMet Tryd.prog Rows.graphReachesRow.laid W := h
  exact fun w hw => ctz_tab hL w hw

theorem lifted (os : Os) (started : os.Started) (H : Type) (enc : TypeId × Value → H) (F : Stop.Interp) :
    ReturnsInHanded {} Tryd.checked os 8 .any ((OpenSpec.ofChange Rows.graphReachesSpec).preRow enc Tryd.prog Tryd.f8 Rows.graphReachesRow.domain false Rows.graphReachesRow.laid) (((OpenSpec.ofChange Rows.graphReachesSpec).at F).post enc Tryd.prog Tryd.f8 false true false false) := by
  obtain ⟨places, hx⟩ := witness os enc
  refine returnsInHanded_of_row (C := Tryd.checked) (s := OpenSpec.ofChange Rows.graphReachesSpec) own started (by kernel_rfl) Tryd.func8
    (witness_row_at (enc := enc) (C := Tryd.checked) false (lawWorld os) vals rfl (by kernel_rfl) (by kernel_rfl) (by kernel_rfl)
      (OpenSpec.preRow_of_cond 8 hx (by kernel_rfl) (fun k hk => by cases hk) (by kernel_rfl) (met os))) ?_
  intro W base args ds gs before hval hW _ _ _ hL _ _
  exact row_contract (ts := tys) (con := cReaches) reads rets bools spec (fun x h => by obtain ⟨x0, x1, x2, ⟨⟩⟩ := x; obtain ⟨h0, h1, h2, -⟩ := h; exact ⟨_, rfl, ⟨draft_of h2, u64_of h1⟩⟩) (valid8 (tabs hL)) hval hW

theorem said : Rows.GraphReachesSaid :=
  OpenClaim.holds_of_cond 8 Tryd.f8 rfl rfl rfl rfl rfl rfl rfl ⟨rfl, rfl, rfl, rfl, rfl⟩ rfl rfl rfl rfl rfl (by kernel_rfl) Tryd.func8 (by kernel_rfl)
    (of_decide_eq_true (by kernel_rfl)) (by unfold Func.isWrapper; first | (rw [if_pos (by decide +kernel)]; kernel_rfl) | (rw [if_neg (by decide +kernel)]; exact ⟨rfl, rfl⟩))
    (fun os started H enc _ F => by rw [OpenClaim.pre_eq_preRow]; exact lifted os started H enc F)

theorem plain (f : FuncId) (fn : Func) (hf : Tryd.pinned.checked.prog.funcNamed "croupier/croupierlaw08.GraphReaches" = some f) (hfn : Tryd.pinned.checked.prog.funcs[f]? = some fn) :
    false = Tryd.pinned.checked.prog.looks [] ∧ ∀ (j : Nat) t, fn.params[j]? = some t → Tryd.pinned.checked.prog.wantsStandIn t = false := by
  obtain rfl : f = 8 := Option.some.inj ((show Tryd.prog.funcNamed "croupier/croupierlaw08.GraphReaches" = some 8 by kernel_rfl).symm.trans hf) |>.symm
  obtain rfl : fn = Tryd.f8 := (Option.some.inj (Tryd.func8.symm.trans hfn)).symm
  refine ⟨by kernel_rfl, fun j t ht => ?_⟩
  have hall : Tryd.f8.params.toList.all (fun t => !Tryd.prog.wantsStandIn t) = true := by kernel_rfl
  have := List.all_eq_true.1 hall t (by simpa using Array.mem_of_getElem? ht)
  exact (by simpa using this : Tryd.prog.wantsStandIn t = false)

theorem card : Rows.GraphReachesCardSaid :=
  Claim7.holds_tied_plain_at .later [] _ _ _ _ said (fun _ h => by cases h) (by kernel_rfl) (fun _ h => by cases h) graphReaches_row_tie rfl ⟨rfl, rfl⟩ (by kernel_rfl) rfl plain (by kernel_rfl)

end Go.Proofs.YtcopdikdkkdlfaaDoor.graphReaches
end
