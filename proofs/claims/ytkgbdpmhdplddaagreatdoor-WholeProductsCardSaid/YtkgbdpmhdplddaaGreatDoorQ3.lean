/- Merged by a program out of several texts. -/
import Derived.Test.YtkgbdpmhdplddaaGreatDoorQ2
import Derived.WalkKit
import Derived.BigCall
import Derived.Lib.Hide
import Derived.Scope
import Derived.KernelRfl
import Derived.Test.YtkgbdpmhdplddaaGreatDoorProg
import Derived.Shelf.Abstract
import Derived.RangeFuncBox
import Derived.OwnWalkIn
import Derived.TacticsInMore
import Derived.LoopNIn
import Derived.LoopIn
set_option linter.all false
set_option linter.unusedSimpArgs false
set_option linter.unusedVariables false

section
/- The text of an integer: the walk. -/
namespace Go.Proofs
open Go.RowKit Go.Cm Go.Sort

theorem builder_kept {T e : TypeId} {B b : Nat} {bs : List Value} {w w' : World} (h : Lib.IsBuilder T e B b bs w) (hg : w.grownBy w' none) : Lib.IsBuilder T e B b bs w' := by
  have key : ∀ p, Lib.BuilderAt T e B b p bs w → Lib.BuilderAt T e B b p bs w' := by
    rintro p ⟨h1, v, h2, h3, h4⟩
    exact ⟨h1, v, (hg.block b (Array.getElem?_eq_some_iff.1 h2).1 (by simp)).trans h2, h3.kept hg (by cases v.ownBlock <;> simp), h4⟩
  exact h.imp (key _) (key _)

theorem zeros9 {n : Nat} (h : n ≤ 9) : (⟨#[48, 48, 48, 48, 48, 48, 48, 48, 48]⟩ : ByteArray).extract n 9 = ⟨(List.replicate (9 - n) (48 : UInt8)).toArray⟩ := by
  have : ∀ n : Fin 10, (⟨#[48, 48, 48, 48, 48, 48, 48, 48, 48]⟩ : ByteArray).extract n.1 9 = ⟨(List.replicate (9 - n.1) (48 : UInt8)).toArray⟩ := by decide
  exact this ⟨n, by omega⟩

theorem below_grow' (B : Nat) (w : World) (hB : B ≤ w.heap.size) (k : Nat) (os : Array Obj) : Below B w (grow (w.drewN k) os) := by
  refine ⟨rfl, rfl, rfl, ?_, fun i hi => ?_⟩
  · show w.heap.size ≤ (w.heap ++ os).size; simp
  · show (w.heap ++ os)[i]? = w.heap[i]?
    rw [Array.getElem?_append_left (by omega)]

theorem grow_grown (w : World) (k : Nat) (os : Array Obj) : w.grownBy (grow (w.drewN k) os) none := by
  have := below_grow' w.heap.size w (Nat.le_refl _) k os
  exact ⟨this.os, this.tape, this.output, this.size, fun i hi _ => this.block i hi⟩

set_option maxRecDepth 100000 in
set_option maxHeartbeats 1000000 in
theorem text_walk (s : Bool) (xs : List Int) (b o cap : Nat) (w : World) (hne : 0 < xs.length) (hl : Lim xs) (hlen : xs.length ≤ 1000000000000) (hb : b < w.heap.size) (hc : ∀ j, j < xs.length → w.cell? ⟨b, o + j, none⟩ = some (.int .u32 (xs.getD j 0)))
    (hT : ∀ W, Below w.heap.size w W → Lib.TabIs Tryz.prog W "internal/strconv.uint64pow10" .u64 Lib.pow10Tab) :
    Calls Tryz.prog 41 #[.agg #[.bool s, .slice (some ⟨b, o, none⟩) xs.length cap]] w fun e w' => e = .returned (.string ⟨(txtAcc s xs xs.length).toArray⟩) ∧ Below w.heap.size w w' := by
  have h0 : ((xs.length : Int) == 0) = false := beq_eq_false_iff_ne.2 (by omega)
  obtain ⟨W0, hW0⟩ : ∃ W0, W0 = w.alloc (.cells #[.bool s, .slice (some ⟨b, o, none⟩) xs.length cap] 63) := ⟨_, rfl⟩
  cases s
  · go_enter Tryz.func41, Tryz.ntmps41
    go_wp2_with fail
    go_loopw [4] (fun i wr => ∃ k : Nat, k ≤ xs.length ∧ i = .int .i64 ((xs.length : Int) - 1 - k) ∧ Lib.IsBuilder 97 5 (w.heap.size + 1) (w.heap.size + 1) (Lib.byteCells (txtAcc false xs k)) wr ∧ Below (w.heap.size + 1) W0 wr) (fun i _ => (intOf i + 1).toNat)
    case atStart =>
      refine ⟨0, Nat.zero_le _, by simp, ?_, ?_⟩
      · have := Lib.fresh_isBuilder 97 5 (w.alloc (.cells #[.bool false, .slice (some ⟨b, o, none⟩) xs.length cap] 63))
        rw [World.size_alloc] at this; exact this
      · rw [hW0]; exact (Below.refl _ _).alloc (by simp) _
    case round =>
      obtain ⟨k, hk, rfl, hI, hbw⟩ := hrel
      have hB0 : Below w.heap.size w wr := (((Below.refl _ _).alloc (Nat.le_refl _) _).trans ((by rw [hW0] at hbw; exact hbw.mono (by omega))))
      have g0 : wr.cell? ⟨w.heap.size, 0, none⟩ = some (.bool false) := by
        rw [hbw.cell (p := ⟨w.heap.size, 0, none⟩) (by simp), hW0]; exact cell_of_row _ _ 0 _ _ _ (heap_alloc_new w _)
      have g1 : wr.cell? ⟨w.heap.size, 1, none⟩ = some (.slice (some ⟨b, o, none⟩) xs.length cap) := by
        rw [hbw.cell (p := ⟨w.heap.size, 1, none⟩) (by simp), hW0]; exact cell_of_row _ _ 1 _ _ _ (heap_alloc_new w _)
      by_cases hlt : k < xs.length
      · have hge : 0 ≤ (xs.length : Int) - 1 - k := by omega
        have htn : ((xs.length : Int) - 1 - k).toNat = xs.length - 1 - k := by omega
        have hup : (xs.length : Int) - 1 - k < xs.length := by omega
        obtain ⟨x, hx⟩ : ∃ x, x = xs.getD (xs.length - 1 - k) 0 := ⟨_, rfl⟩
        have hc1 : wr.cell? ⟨b, o + (xs.length - 1 - k), none⟩ = some (.int .u32 x) := by
          rw [hB0.cell (p := ⟨b, o + (xs.length - 1 - k), none⟩) hb, hx]; exact hc _ (by omega)
        have hxl := hl.getD (xs.length - 1 - k)
        rw [← hx] at hxl
        have hB : LB = 1000000000 := rfl
        obtain ⟨hx0, hx1⟩ := hxl
        rw [hB] at hx1
        have HX := Lib.hid hx
        clear hx hB
        have hil := itoa_le hx0 (by rw [show LB = 1000000000 from rfl]; exact hx1)
        go_wp2_with fail
        refine (Tryz.strconv_Itoa x (by omega) (by omega) wr (hT wr hB0)).mono ?_
        rintro e W1 ⟨rfl, q, os, hW1⟩
        have hg := grow_grown wr q os
        have hb1 := below_grow' wr.heap.size wr (Nat.le_refl _) q os
        rw [← hW1] at hg hb1
        have hI1 := builder_kept hI hg
        clear hg
        have hsz : w.heap.size + 1 < wr.heap.size := by
          rcases hI with h | h <;> exact h.lt
        clear hI hW1
        have hbw1 : Below (w.heap.size + 1) W0 W1 := hbw.trans (hb1.mono (by omega))
        have f0 : W1.cell? ⟨w.heap.size, 0, none⟩ = some (.bool false) := (hb1.cell (p := ⟨w.heap.size, 0, none⟩) (by simp only; omega)).trans g0
        have f1 : W1.cell? ⟨w.heap.size, 1, none⟩ = some (.slice (some ⟨b, o, none⟩) xs.length cap) := (hb1.cell (p := ⟨w.heap.size, 1, none⟩) (by simp only; omega)).trans g1
        have hszw : w.heap.size + 1 ≤ W1.heap.size := by have := hb1.size; omega
        have hacc := txtAcc_le (s := false) hl k
        have hacc2 : txtAcc false xs (k + 1) = txtAcc false xs k ++ ((if k = 0 then [] else List.replicate (9 - (Lib.itoa x).length) 48) ++ Lib.itoa x) := by rw [HX.out]; rfl
        have HA := Lib.hid hacc2
        clear hacc2 HX
        generalize hl1 : Lib.itoa x = l at *
        clear hl1
        obtain ⟨hil1, hil2⟩ := hil
        by_cases hk0 : k = 0
        · have HK := Lib.hid hk0
          have hnl : ¬ ((xs.length : Int) - 1 - k < (xs.length : Int) - 1) := by omega
          clear hk0
          go_wp2_with fail
          refine (Any.Builder_WriteString Tryz.lays166 Tryz.Builder_Extra_166 (w.heap.size + 1) (w.heap.size + 1) _ ⟨l.toArray⟩ _ hI1 (by rw [Lib.byteCells_length]; simp only [ByteArray.size, List.size_toArray]; omega) hszw).mono ?_
          rintro e W2 ⟨rfl, h2, b2⟩
          go_wp2
          go_roundw
          case rel =>
            refine ⟨k + 1, by omega, by congr 1; omega, ?_, hbw1.trans b2⟩
            have e := HA.out
            rw [if_pos HK.out, List.nil_append] at e
            rw [e, Lib.byteCells_append]
            exact .inr h2
          case measure => simp [intOf]; omega
        · have hnl : (xs.length : Int) - 1 - k < (xs.length : Int) - 1 := by omega
          have hl9 : (l.length : Int) ≤ 9 := by omega
          have HK := Lib.hid hk0
          clear hk0
          go_wp2_with fail
          rw [zeros9 hil2]
          refine (Any.Builder_WriteString Tryz.lays166 Tryz.Builder_Extra_166 (w.heap.size + 1) (w.heap.size + 1) _ ⟨(List.replicate (9 - l.length) (48 : UInt8)).toArray⟩ _ hI1 (by rw [Lib.byteCells_length]; simp only [ByteArray.size, List.size_toArray, List.length_replicate]; omega) hszw).mono ?_
          rintro e W2 ⟨rfl, h2, b2⟩
          have hszw2 : w.heap.size + 1 ≤ W2.heap.size := by have := b2.size; omega
          clear hI1
          go_wp2_with fail
          refine (Any.Builder_WriteString Tryz.lays166 Tryz.Builder_Extra_166 (w.heap.size + 1) (w.heap.size + 1) _ ⟨l.toArray⟩ _ (.inr h2) (by rw [List.length_append, Lib.strCells_length, Lib.byteCells_length]; simp only [ByteArray.size, List.size_toArray, List.length_replicate]; omega) hszw2).mono ?_
          rintro e W3 ⟨rfl, h3, b3⟩
          go_wp2
          go_roundw
          case rel =>
            refine ⟨k + 1, by omega, by congr 1; omega, ?_, (hbw1.trans b2).trans b3⟩
            have e := HA.out
            rw [if_neg HK.out, ← List.append_assoc] at e
            rw [e, Lib.byteCells_append, Lib.byteCells_append]
            exact .inr h3
          case measure => simp [intOf]; omega
      · have hk2 : k = xs.length := by omega
        have hnl : ¬ (0 ≤ (xs.length : Int) - 1 - k) := by omega
        have HK := Lib.hid hk2
        clear hk2
        have hszw : w.heap.size + 1 ≤ wr.heap.size := by
          rcases hI with h | h <;> exact Nat.le_of_lt h.lt
        go_wp2_with fail
        refine (Any.Builder_String_any Tryz.lays169 Tryz.Builder_Extra_169 (w.heap.size + 1) (w.heap.size + 1) _ _ hI hszw).mono ?_
        rintro e W2 ⟨rfl, b2⟩
        go_wp2
        go_ret
        exact ⟨by rw [HK.out]; rfl, hB0.trans (b2.mono (by omega))⟩
  · go_enter Tryz.func41, Tryz.ntmps41
    go_wp2_with fail
    have hf := Lib.fresh_isBuilder 97 5 (w.alloc (.cells #[.bool true, .slice (some ⟨b, o, none⟩) xs.length cap] 63))
    rw [World.size_alloc] at hf
    refine (Any.Builder_WriteByte Tryz.lays167 Tryz.Builder_Extra_167 (w.heap.size + 1) (w.heap.size + 1) [] 45 _ hf (by simp) (by simp)).mono ?_
    rintro e W1 ⟨rfl, h1, b1⟩
    have hb1 : Below (w.heap.size + 1) W0 W1 := by rw [hW0]; exact ((Below.refl _ _).alloc (by simp) _).trans b1
    have f0 : W1.cell? ⟨w.heap.size, 0, none⟩ = some (.bool true) := by
      rw [hb1.cell (p := ⟨w.heap.size, 0, none⟩) (by simp), hW0]; exact cell_of_row _ _ 0 _ _ _ (heap_alloc_new w _)
    have f1 : W1.cell? ⟨w.heap.size, 1, none⟩ = some (.slice (some ⟨b, o, none⟩) xs.length cap) := by
      rw [hb1.cell (p := ⟨w.heap.size, 1, none⟩) (by simp), hW0]; exact cell_of_row _ _ 1 _ _ _ (heap_alloc_new w _)
    go_wp2_with fail
    go_loopw [4] (fun i wr => ∃ k : Nat, k ≤ xs.length ∧ i = .int .i64 ((xs.length : Int) - 1 - k) ∧ Lib.IsBuilder 97 5 (w.heap.size + 1) (w.heap.size + 1) (Lib.byteCells (txtAcc true xs k)) wr ∧ Below (w.heap.size + 1) W0 wr) (fun i _ => (intOf i + 1).toNat)
    case atStart => exact ⟨0, Nat.zero_le _, by simp, .inr h1, hb1⟩
    case round =>
      obtain ⟨k, hk, rfl, hI, hbw⟩ := hrel
      have hB0 : Below w.heap.size w wr := (((Below.refl _ _).alloc (Nat.le_refl _) _).trans ((by rw [hW0] at hbw; exact hbw.mono (by omega))))
      have g0 : wr.cell? ⟨w.heap.size, 0, none⟩ = some (.bool true) := by
        rw [hbw.cell (p := ⟨w.heap.size, 0, none⟩) (by simp), hW0]; exact cell_of_row _ _ 0 _ _ _ (heap_alloc_new w _)
      have g1 : wr.cell? ⟨w.heap.size, 1, none⟩ = some (.slice (some ⟨b, o, none⟩) xs.length cap) := by
        rw [hbw.cell (p := ⟨w.heap.size, 1, none⟩) (by simp), hW0]; exact cell_of_row _ _ 1 _ _ _ (heap_alloc_new w _)
      by_cases hlt : k < xs.length
      · have hge : 0 ≤ (xs.length : Int) - 1 - k := by omega
        have htn : ((xs.length : Int) - 1 - k).toNat = xs.length - 1 - k := by omega
        have hup : (xs.length : Int) - 1 - k < xs.length := by omega
        obtain ⟨x, hx⟩ : ∃ x, x = xs.getD (xs.length - 1 - k) 0 := ⟨_, rfl⟩
        have hc1 : wr.cell? ⟨b, o + (xs.length - 1 - k), none⟩ = some (.int .u32 x) := by
          rw [hB0.cell (p := ⟨b, o + (xs.length - 1 - k), none⟩) hb, hx]; exact hc _ (by omega)
        have hxl := hl.getD (xs.length - 1 - k)
        rw [← hx] at hxl
        have hB : LB = 1000000000 := rfl
        obtain ⟨hx0, hx1⟩ := hxl
        rw [hB] at hx1
        have HX := Lib.hid hx
        clear hx hB
        have hil := itoa_le hx0 (by rw [show LB = 1000000000 from rfl]; exact hx1)
        go_wp2_with fail
        refine (Tryz.strconv_Itoa x (by omega) (by omega) wr (hT wr hB0)).mono ?_
        rintro e W1 ⟨rfl, q, os, hW1⟩
        have hg := grow_grown wr q os
        have hb1 := below_grow' wr.heap.size wr (Nat.le_refl _) q os
        rw [← hW1] at hg hb1
        have hI1 := builder_kept hI hg
        clear hg
        have hsz : w.heap.size + 1 < wr.heap.size := by
          rcases hI with h | h <;> exact h.lt
        clear hI hW1
        have hbw1 : Below (w.heap.size + 1) W0 W1 := hbw.trans (hb1.mono (by omega))
        have f0 : W1.cell? ⟨w.heap.size, 0, none⟩ = some (.bool true) := (hb1.cell (p := ⟨w.heap.size, 0, none⟩) (by simp only; omega)).trans g0
        have f1 : W1.cell? ⟨w.heap.size, 1, none⟩ = some (.slice (some ⟨b, o, none⟩) xs.length cap) := (hb1.cell (p := ⟨w.heap.size, 1, none⟩) (by simp only; omega)).trans g1
        have hszw : w.heap.size + 1 ≤ W1.heap.size := by have := hb1.size; omega
        have hacc := txtAcc_le (s := true) hl k
        have hacc2 : txtAcc true xs (k + 1) = txtAcc true xs k ++ ((if k = 0 then [] else List.replicate (9 - (Lib.itoa x).length) 48) ++ Lib.itoa x) := by rw [HX.out]; rfl
        have HA := Lib.hid hacc2
        clear hacc2 HX
        generalize hl1 : Lib.itoa x = l at *
        clear hl1
        obtain ⟨hil1, hil2⟩ := hil
        by_cases hk0 : k = 0
        · have HK := Lib.hid hk0
          have hnl : ¬ ((xs.length : Int) - 1 - k < (xs.length : Int) - 1) := by omega
          clear hk0
          go_wp2_with fail
          refine (Any.Builder_WriteString Tryz.lays166 Tryz.Builder_Extra_166 (w.heap.size + 1) (w.heap.size + 1) _ ⟨l.toArray⟩ _ hI1 (by rw [Lib.byteCells_length]; simp only [ByteArray.size, List.size_toArray]; omega) hszw).mono ?_
          rintro e W2 ⟨rfl, h2, b2⟩
          go_wp2
          go_roundw
          case rel =>
            refine ⟨k + 1, by omega, by congr 1; omega, ?_, hbw1.trans b2⟩
            have e := HA.out
            rw [if_pos HK.out, List.nil_append] at e
            rw [e, Lib.byteCells_append]
            exact .inr h2
          case measure => simp [intOf]; omega
        · have hnl : (xs.length : Int) - 1 - k < (xs.length : Int) - 1 := by omega
          have hl9 : (l.length : Int) ≤ 9 := by omega
          have HK := Lib.hid hk0
          clear hk0
          go_wp2_with fail
          rw [zeros9 hil2]
          refine (Any.Builder_WriteString Tryz.lays166 Tryz.Builder_Extra_166 (w.heap.size + 1) (w.heap.size + 1) _ ⟨(List.replicate (9 - l.length) (48 : UInt8)).toArray⟩ _ hI1 (by rw [Lib.byteCells_length]; simp only [ByteArray.size, List.size_toArray, List.length_replicate]; omega) hszw).mono ?_
          rintro e W2 ⟨rfl, h2, b2⟩
          have hszw2 : w.heap.size + 1 ≤ W2.heap.size := by have := b2.size; omega
          clear hI1
          go_wp2_with fail
          refine (Any.Builder_WriteString Tryz.lays166 Tryz.Builder_Extra_166 (w.heap.size + 1) (w.heap.size + 1) _ ⟨l.toArray⟩ _ (.inr h2) (by rw [List.length_append, Lib.strCells_length, Lib.byteCells_length]; simp only [ByteArray.size, List.size_toArray, List.length_replicate]; omega) hszw2).mono ?_
          rintro e W3 ⟨rfl, h3, b3⟩
          go_wp2
          go_roundw
          case rel =>
            refine ⟨k + 1, by omega, by congr 1; omega, ?_, (hbw1.trans b2).trans b3⟩
            have e := HA.out
            rw [if_neg HK.out, ← List.append_assoc] at e
            rw [e, Lib.byteCells_append, Lib.byteCells_append]
            exact .inr h3
          case measure => simp [intOf]; omega
      · have hk2 : k = xs.length := by omega
        have hnl : ¬ (0 ≤ (xs.length : Int) - 1 - k) := by omega
        have HK := Lib.hid hk2
        clear hk2
        have hszw : w.heap.size + 1 ≤ wr.heap.size := by
          rcases hI with h | h <;> exact Nat.le_of_lt h.lt
        go_wp2_with fail
        refine (Any.Builder_String_any Tryz.lays169 Tryz.Builder_Extra_169 (w.heap.size + 1) (w.heap.size + 1) _ _ hI hszw).mono ?_
        rintro e W2 ⟨rfl, b2⟩
        go_wp2
        go_ret
        exact ⟨by rw [HK.out]; rfl, hB0.trans (b2.mono (by omega))⟩
end Go.Proofs
end

section
/- The library's functions meet contracts of ours: texts of numbers, numbers of texts, repetition, the text of an integer. -/
namespace Go.Proofs
open Go.RowKit Go.Cm

/-- What lies below holds the tables. -/
def Tabs (B : Base) : Prop := ∀ w, B.On w → Lib.TabIs Tryz.prog w "internal/strconv.uint64pow10" .u64 Lib.pow10Tab

theorem on_below {B : Base} {w w' : World} (h : B.On w) (hb : Below w.heap.size w w') : B.On w' :=
  ⟨Nat.le_trans h.1 hb.size, fun b hbn => (hb.block b (Nat.lt_of_lt_of_le hbn h.1)).trans (h.2 b hbn)⟩

/-- One result of pure data, nothing lent. -/
theorem ret_one {P : Program} {f : FuncId} {vals : Array Value} {w : World} {O : Nat → Prop} {ρ0 : Nat → Value} {v : Value} {t : Ty} {y : t.D} (h : Calls P f vals w fun e w' => e = .returned v ∧ Below w.heap.size w w') (hv : ∀ H w, RepL H w (fun _ => undef) (.z t y) v) :
    Calls P f vals w fun e w' => ∃ vs : List Value, e = .returned (retV vs) ∧ ([] : List OObj).length = ([] : List OObj).length ∧ Bel (fun b => w.heap.size ≤ b ∨ lentBlk ρ0 [] b) w w' ∧
      All2 (RepR (hotR (hot O ρ0 (ioList ioB [])) [RV.z t y] vs) w' w.heap.size) [RV.z t y] vs ∧ apartR [RV.z t y] vs ∧ ∀ p ∈ ioList ioB ([] : List OObj), OwnOK (hotR (hot O ρ0 (ioList ioB [])) [RV.z t y] vs) w' ρ0 (lentBlk ρ0 []) p :=
  h.mono fun e w' ⟨he, hb⟩ => ⟨[v], he, rfl, ⟨hb.os, hb.tape, hb.output, hb.size, fun k hk _ => hb.block k hk⟩, ⟨hv _ _, trivial⟩, ⟨fun h => (by cases h), trivial⟩, fun p hp => by simp [ioList] at hp⟩

def cItoa : Con := fun l os => match l, os with
  | [.z (.int .i64) n], [] => some (I64 n, [.z .str (Lib.itoa n)], [])
  | _, _ => none

theorem one_val {R : LV → Value → Prop} {x : LV} {vals : Array Value} (h : All2 R [x] vals.toList) : ∃ v, vals = #[v] ∧ R x v := by
  obtain ⟨l⟩ := vals
  match l, h with
  | [v], h => exact ⟨v, rfl, h.1⟩
  | _ :: _ :: _, h => exact h.2.elim
theorem two_vals {R : LV → Value → Prop} {x y : LV} {vals : Array Value} (h : All2 R [x, y] vals.toList) : ∃ u v, vals = #[u, v] ∧ R x u ∧ R y v := by
  obtain ⟨l⟩ := vals
  match l, h with
  | [u, v], h => exact ⟨u, v, rfl, h.1, h.2.1⟩
  | [_], h => exact h.2.elim
  | _ :: _ :: _ :: _, h => exact h.2.2.elim
theorem three_vals {R : LV → Value → Prop} {x y z : LV} {vals : Array Value} (h : All2 R [x, y, z] vals.toList) : ∃ u v t, vals = #[u, v, t] ∧ R x u ∧ R y v ∧ R z t := by
  obtain ⟨l⟩ := vals
  match l, h with
  | [u, v, t], h => exact ⟨u, v, t, rfl, h.1, h.2.1, h.2.2.1⟩
  | [_], h => exact h.2.elim
  | [_, _], h => exact h.2.2.elim
  | _ :: _ :: _ :: _ :: _, h => exact h.2.2.2.elim

theorem valid57 {B : Base} (hB : Tabs B) : Valid B Tryz.prog 69 cItoa := by
  intro args os C rs os' hc hC O w vals ρ0 hOn hIo hO hOI hargs hown hap
  unfold cItoa at hc
  split at hc
  case h_2 => cases hc
  cases hc
  obtain ⟨v, rfl, hv⟩ := one_val hargs
  rw [int_val hv]
  exact ret_one ((Tryz.strconv_Itoa _ hC.1 hC.2 w (hB w hOn)).mono fun e w' ⟨he, k, os, hw⟩ => ⟨he, by rw [hw]; exact below_grow' _ _ (Nat.le_refl _) _ _⟩) (fun H w => rep_str (ρ := fun _ => undef))

/-- A number of digits alone. -/
def numOf (l : List UInt8) : Nat := l.foldl (fun n c => n * 10 + (c.toNat - 48)) 0
def Digits (l : List UInt8) : Prop := ∀ c ∈ l, 48 ≤ c.toNat ∧ c.toNat ≤ 57

def cParse : Con := fun l os => match l, os with
  | [.z .str s, .z (.int .i64) 10, .z (.int .i64) 32], [] => some (s ≠ [] ∧ Digits s ∧ s.length ≤ 9, [.z (.int .u64) (numOf s), .val .nilIface], [])
  | _, _ => none

theorem num_mono : ∀ (l : List UInt8) (a : Nat), a ≤ l.foldl (fun n c => n * 10 + (c.toNat - 48)) a
  | [], _ => Nat.le_refl _
  | c :: l, a => Nat.le_trans (by omega) (num_mono l (a * 10 + (c.toNat - 48)))

theorem num_lt : ∀ (l : List UInt8) (a k : Nat), Digits l → a < 10 ^ k → l.foldl (fun n c => n * 10 + (c.toNat - 48)) a < 10 ^ (k + l.length)
  | [], _, _, _, h => h
  | c :: l, a, k, hd, h => by
    have h1 := hd c (by simp)
    have := num_lt l (a * 10 + (c.toNat - 48)) (k + 1) (fun x hx => hd x (by simp [hx])) (by rw [Nat.pow_succ]; omega)
    rw [List.foldl_cons, List.length_cons, show k + (l.length + 1) = k + 1 + l.length by omega]
    exact this

theorem numOf_lt {l : List UInt8} (hd : Digits l) : numOf l < 10 ^ l.length := by
  have := num_lt l 0 0 hd (by simp)
  rw [Nat.zero_add] at this
  exact this

theorem parse_ok : ∀ (l : List UInt8) (a : Nat), Digits l → l.foldl (fun n c => n * 10 + (c.toNat - 48)) a ≤ 4294967295 → Lib.parseUintM (2 ^ 32 - 1) a l = .ok (l.foldl (fun n c => n * 10 + (c.toNat - 48)) a)
  | [], _, _, _ => rfl
  | c :: l, a, hd, h => by
    have h1 := hd c (by simp)
    have h2 := num_mono l (a * 10 + (c.toNat - 48))
    rw [List.foldl_cons] at h
    rw [Lib.parseUintM, if_pos h1, if_neg (by omega), if_neg (by omega), parse_ok l _ (fun x hx => hd x (by simp [hx])) h, List.foldl_cons]

theorem valid67 {B : Base} (hB : Tabs B) : Valid B Tryz.prog 81 cParse := by
  intro args os C rs os' hc hC O w vals ρ0 hOn hIo hO hOI hargs hown hap
  unfold cParse at hc
  split at hc
  case h_2 => cases hc
  rename_i s
  cases hc
  obtain ⟨u, v, t, rfl, hu, hv, ht⟩ := three_vals hargs
  rw [int_val hv, int_val ht, str_val hu]
  obtain ⟨h0, h1, h2⟩ := hC
  have hsz : (⟨s.toArray⟩ : ByteArray).size = s.length := by simp [ByteArray.size]
  have hlt := numOf_lt h1
  have h9 : numOf s < 10 ^ 9 := Nat.lt_of_lt_of_le hlt (Nat.pow_le_pow_right (by omega) h2)
  have hp : Lib.parseUintB 32 s = .ok (numOf s) := by
    rw [Lib.parseUintB, if_neg h0]
    exact parse_ok s 0 h1 (by unfold numOf at h9; omega)
  refine (Tryz.strconv_ParseUint_10_at32_ok ⟨s.toArray⟩ (by rw [hsz]; omega) (numOf s) hp w).mono fun e w' ⟨he, hw⟩ => ?_
  have hb : Below w.heap.size w w' := by
    rcases hw with hw | hw
    · rw [hw]; exact Below.refl _ _
    · rw [hw]; exact ⟨rfl, rfl, rfl, by rw [Lib.bytesWorld_size]; omega, fun k hk => Lib.bytesWorld_at_old w _ _ k hk⟩
  exact ⟨[.int .u64 (numOf s), .nilIface], he, rfl, ⟨hb.os, hb.tape, hb.output, hb.size, fun k hk _ => hb.block k hk⟩, ⟨rep_int (ρ := fun _ => undef), rfl, trivial⟩, ⟨fun h => (by cases h), fun h => (by cases h), trivial⟩, fun p hp => by simp [ioList] at hp⟩

/-! ### The text of an integer -/
theorem valL_take_step {xs : List Int} {k : Nat} (hk : k < xs.length) : valL (xs.drop (xs.length - 1 - k)) = xs.getD (xs.length - 1 - k) 0 + LB * valL (xs.drop (xs.length - k)) := by
  rw [List.drop_eq_getElem_cons (by omega), valL, show xs.length - 1 - k + 1 = xs.length - k by omega, List.getD_eq_getElem?_getD, List.getElem?_eq_getElem (by omega)]
  rfl

def padTo (k u : Nat) : List UInt8 := if k = 0 then [] else List.replicate (k - (Lib.decDigits u).length) 48 ++ Lib.decDigits u

theorem pad_step {k u : Nat} (hu : u < 10 ^ (k + 1)) : padTo k (u / 10) ++ [UInt8.ofNat (48 + u % 10)] = padTo (k + 1) u := by
  unfold padTo
  rw [if_neg (show ¬ k + 1 = 0 by omega)]
  by_cases hk : k = 0
  · subst hk
    have hu10 : u < 10 := by simpa using hu
    rw [if_pos rfl, show Lib.decDigits u = [UInt8.ofNat (48 + u)] by rw [Lib.decDigits, dif_pos hu10]]
    simp [Nat.mod_eq_of_lt hu10]
  · rw [if_neg hk]
    by_cases hu10 : u < 10
    · have : u / 10 = 0 := by omega
      rw [this, show Lib.decDigits 0 = [48] by rw [Lib.decDigits, dif_pos (by omega)]; rfl, show Lib.decDigits u = [UInt8.ofNat (48 + u)] by rw [Lib.decDigits, dif_pos hu10]]
      simp only [List.length_cons, List.length_nil, Nat.mod_eq_of_lt hu10, List.append_assoc]
      rw [show k + 1 - (0 + 1) = (k - (0 + 1)) + 1 by omega, List.replicate_succ']
      simp
    · have e : Lib.decDigits u = Lib.decDigits (u / 10) ++ [UInt8.ofNat (48 + u % 10)] := by conv => lhs; rw [Lib.decDigits, dif_neg hu10]
      rw [e]
      simp only [List.length_append, List.length_cons, List.length_nil, List.append_assoc]
      rw [show k + 1 - ((Lib.decDigits (u / 10)).length + (0 + 1)) = k - (Lib.decDigits (u / 10)).length by omega]

theorem decDigits_pad : ∀ (k u : Nat) (v : Nat), 0 < v → u < 10 ^ k → Lib.decDigits (u + 10 ^ k * v) = Lib.decDigits v ++ padTo k u
  | 0, u, v, hv, hu => by
    have : u = 0 := by omega
    subst this; simp [padTo]
  | k + 1, u, v, hv, hu => by
    have h1 : 0 < 10 ^ k := Nat.pow_pos (by omega)
    have h2 : 10 ^ (k + 1) * 1 ≤ 10 ^ (k + 1) * v := Nat.mul_le_mul_left _ hv
    have h3 : 10 ^ (k + 1) = 10 ^ k * 10 := Nat.pow_succ ..
    have e1 : (u + 10 ^ (k + 1) * v) / 10 = u / 10 + 10 ^ k * v := by
      rw [h3, Nat.mul_right_comm, Nat.add_mul_div_right _ _ (by omega)]
    have e2 : (u + 10 ^ (k + 1) * v) % 10 = u % 10 := by
      rw [h3, Nat.mul_right_comm, Nat.add_mul_mod_self_right]
    rw [Lib.decDigits, dif_neg (by omega), e1, e2, decDigits_pad k (u / 10) v hv (by omega), List.append_assoc, pad_step hu]

theorem txt_eq {s : Bool} {xs : List Int} (h : Cano xs) : ∀ k, k < xs.length → txtAcc s xs (k + 1) = (if s = true then [45] else []) ++ Lib.decDigits (valL (xs.drop (xs.length - 1 - k))).toNat
  | 0, hk => by
    have hx := h.1.getD (xs.length - 1)
    have e : valL (xs.drop (xs.length - 1 - 0)) = xs.getD (xs.length - 1) 0 := by
      rw [valL_take_step hk, Nat.sub_zero, Nat.sub_zero, List.drop_of_length_le (Nat.le_refl _)]; simp [valL]
    rw [e]
    simp only [txtAcc, Nat.sub_zero, if_true, List.nil_append]
    unfold Lib.itoa
    rw [if_neg (show ¬ xs.getD (xs.length - 1) 0 < 0 by omega)]
  | k + 1, hk => by
    have hx := h.1.getD (xs.length - 1 - (k + 1))
    have ih := txt_eq (s := s) h k (by omega)
    have hB : LB = 1000000000 := rfl
    have hd : Cano (xs.drop (xs.length - 1 - k)) := ⟨fun x hx => h.1 x (List.mem_of_mem_drop hx), by
      have hne : xs.drop (xs.length - 1 - k) ≠ [] := by intro e; have := congrArg List.length e; simp at this; omega
      have := h.2
      rw [← List.take_append_drop (xs.length - 1 - k) xs, getLastD_append hne] at this
      exact this⟩
    have hpos := (valL_pos hd).2 (by intro e; have := congrArg List.length e; simp at this; omega)
    rw [txtAcc, ih, if_neg (show ¬ k + 1 = 0 by omega), valL_take_step hk, show xs.length - (k + 1) = xs.length - 1 - k by omega, List.append_assoc]
    congr 1
    obtain ⟨u, hu⟩ := Int.eq_ofNat_of_zero_le hx.1
    obtain ⟨v, hv⟩ := Int.eq_ofNat_of_zero_le (Int.le_of_lt hpos)
    rw [hu, hv]
    have hun : u < 10 ^ 9 := by have := hx.2; rw [hu] at this; omega
    have e : ((u : Int) + LB * (v : Int)).toNat = u + 10 ^ 9 * v := by rw [hB]; omega
    rw [e, decDigits_pad 9 u v (by omega) hun, padTo, if_neg (show ¬ (9 : Nat) = 0 by omega)]
    unfold Lib.itoa
    rw [if_neg (show ¬ (u : Int) < 0 by omega)]
    simp only [Int.toNat_natCast]

theorem txt_fin {x : Bool × List Int} (h : WOK x) (hne : 0 < x.2.length) : txtAcc x.1 x.2 x.2.length = Lib.itoa (dec x) := by
  have := txt_eq (s := x.1) h.1 (x.2.length - 1) (by omega)
  rw [show x.2.length - 1 + 1 = x.2.length by omega, show x.2.length - 1 - (x.2.length - 1) = 0 by omega, List.drop_zero] at this
  have hp := (valL_pos h.1).2 (by intro e; rw [e] at hne; simp at hne)
  rw [this]
  unfold Lib.itoa dec
  split
  · rename_i hs
    rw [if_pos (by omega)]
    simp; congr 1; omega
  · rename_i hs
    rw [if_neg (by omega)]
    simp

set_option maxRecDepth 100000 in
set_option maxHeartbeats 1000000 in
theorem text_zero (s : Bool) (p : Option Addr) (cap : Nat) (w : World) : Calls Tryz.prog 41 #[.agg #[.bool s, .slice p 0 cap]] w fun e w' => e = .returned (.string ⟨#[48]⟩) ∧ Below w.heap.size w w' := by
  go_enter Tryz.func41, Tryz.ntmps41
  go_wp2
  go_ret
  exact ⟨rfl, (Below.refl _ _).alloc (Nat.le_refl _) _⟩

def cText : Con := fun l os => match l, os with
  | [.z (.st (.pair .bool (.slice (.int .u32)))) x], [] => some (WOK x ∧ x.2.length < CAP, [.z .str (Lib.itoa (dec x))], [])
  | _, _ => none

theorem valid33 {B : Base} (hB : Tabs B) : Valid B Tryz.prog 41 cText := by
  intro args os C rs os' hc hC O w vals ρ0 hOn hIo hO hOI hargs hown hap
  unfold cText at hc
  split at hc
  case h_2 => cases hc
  rename_i x
  cases hc
  obtain ⟨v, rfl, hv⟩ := one_val hargs
  obtain ⟨s, xs⟩ := x
  obtain ⟨hw, hcap⟩ := hC
  have hcap : xs.length < 1000000000000 := hcap
  obtain ⟨cs, rfl, hr⟩ := st_val hv
  obtain ⟨c, d, rfl, h1, h2⟩ := hr
  have h1 : c = [.bool s] := h1
  subst h1
  refine ret_one ?_ (fun H w => rep_str (ρ := fun _ => undef))
  by_cases hne : xs.length = 0
  · have : xs = [] := List.eq_nil_of_length_eq_zero hne
    subst this
    have hs : s = false := hw.2 rfl
    subst hs
    have e : Lib.itoa (dec (false, [])) = [48] := by
      simp [dec, valL, Lib.itoa]; rw [Lib.decDigits, dif_pos (by omega)]; rfl
    rw [e]
    rcases h2 with ⟨rfl, _⟩ | ⟨b, o, p, cap, cells, rfl, _⟩
    · exact text_zero false none 0 w
    · exact text_zero false _ cap w
  · rw [← txt_fin hw (by simp only; omega)]
    rcases h2 with ⟨rfl, h3⟩ | ⟨b, o, p, cap, cells, rfl, hp, h3, h4, h5, h6⟩
    · simp only at h3; rw [h3] at hne; exact absurd rfl hne
    · obtain rfl := hp (fun e => hne (by have e : xs = [] := e; rw [e]; rfl))
      have hcs := rep_ints h5
      have hcn : cells ≠ [] := fun e => by rw [hcs] at e; simp at e; rw [e] at hne; exact hne rfl
      refine text_walk s xs b o cap w (by omega) hw.1.1 (by omega) (h6.lt hcn) (fun j hj => ?_) (fun W hW => hB W (on_below hOn hW))
      have hj' : j < cells.length := by rw [hcs]; simpa using hj
      rw [h6.2 j hj', hcs, List.getElem?_map, List.getElem?_eq_getElem hj]
      simp [List.getD_eq_getElem?_getD, List.getElem?_eq_getElem hj]

end Go.Proofs
end

section
/- Texts of integers: what is right, what it tells. No program is in sight here. -/
namespace Go.Cm
open Go.Proofs

def hasPre (s p : List UInt8) : Bool := decide (p.length ≤ s.length) && (s.take p.length == p)
def trimPre (s p : List UInt8) : List UInt8 := if hasPre s p = true then s.drop p.length else s

theorem hasPre_eq (s p : List UInt8) : (decide ((p.length : Int) ≤ (s.length : Int)) && (List.drop (Int.toNat 0) (List.take (Int.toNat (p.length : Int)) s) == p)) = hasPre s p := by
  simp [hasPre]

/-- Is it a digit? -/
def isDig (c : UInt8) : Bool := 48 ≤ c.toNat && c.toNat ≤ 57

/-- The error of a text: 0, 5 or 6. -/
def chk (s : List UInt8) : Int :=
  if s = [48] then 0
  else if (trimPre s [45]).length = 0 ∨ (trimPre s [45]).getD 0 0 = 48 then 5
  else if (trimPre s [45]).all isDig = false then 5
  else if 2000 < (trimPre s [45]).length then 6
  else 0

/-- The integer of a text. -/
def numI (s : List UInt8) : Int := if hasPre s [45] = true then - (numOf (trimPre s [45]) : Int) else (numOf (trimPre s [45]) : Int)

theorem chk_ok {s : List UInt8} (h : chk s = 0) : Digits (trimPre s [45]) ∧ 0 < (trimPre s [45]).length ∧ (trimPre s [45]).length ≤ 2000 ∧ (s ≠ [48] → (trimPre s [45]).getD 0 0 ≠ 48) := by
  unfold chk at h
  split at h
  · rename_i h0; subst h0
    refine ⟨?_, by decide, by decide, fun h => absurd rfl h⟩
    intro c hc
    have : trimPre [48] [45] = [48] := by decide
    rw [this] at hc
    simp at hc; subst hc; decide
  · split at h
    · cases h
    · rename_i h0 h1
      simp only [not_or] at h1
      split at h
      · cases h
      · rename_i h2
        split at h
        · cases h
        · refine ⟨fun c hc => ?_, by omega, by omega, fun _ => h1.2⟩
          have h3 : (trimPre s [45]).all isDig = true := by simpa using h2
          have := List.all_eq_true.1 h3 c hc
          simpa [isDig] using this

end Go.Cm
end

section
/- Comparisons, digits, small integers. No program is in sight here. -/
namespace Go.Cm
open Go.Proofs

theorem cmpI_lt {a b : Int} (h : a < b) : cmpI a b = -1 := by rw [cmpI, if_pos h]
theorem cmpI_gt {a b : Int} (h : b < a) : cmpI a b = 1 := by rw [cmpI, if_neg (by omega), if_pos h]
theorem cmpI_self (a : Int) : cmpI a a = 0 := by rw [cmpI, if_neg (by omega), if_neg (by omega)]

theorem cmp_first {x y : Bool × List Int} (hx : WOK x) (h : (cmpI (cmpI (dec x) 0) (cmpI (dec y) 0) != 0 || ((x.2.length : Int) == 0)) = true) : cmpI (cmpI (dec x) 0) (cmpI (dec y) 0) = cmpI (dec x) (dec y) := by
  have h0 := (dec_sign hx).1
  simp only [Bool.or_eq_true, bne_iff_ne, beq_iff_eq] at h
  rcases h with h | h
  · unfold cmpI at h ⊢
    split at h <;> split at h <;> (repeat' split) <;> first | omega | (exfalso; revert h; simp; done) | (exfalso; apply h; simp; done) | rfl
  · have := h0.1 h
    rw [this]
    unfold cmpI
    (repeat' split) <;> first | omega | rfl

theorem cmp_second {x y : Bool × List Int} (hx : WOK x) (hy : WOK y) (h : (cmpI (cmpI (dec x) 0) (cmpI (dec y) 0) != 0 || ((x.2.length : Int) == 0)) = false) :
    (x.1 = true → cmpI (valL y.2) (valL x.2) = cmpI (dec x) (dec y)) ∧ (x.1 = false → cmpI (valL x.2) (valL y.2) = cmpI (dec x) (dec y)) := by
  obtain ⟨h1, h2⟩ := dec_sign hx
  obtain ⟨h3, h4⟩ := dec_sign hy
  simp only [Bool.or_eq_false_iff, bne_eq_false_iff_eq, beq_eq_false_iff_ne] at h
  obtain ⟨h5, h6⟩ := h
  have h5 := cmpI_eq.1 h5
  have hne := h2 h6
  have hy0 : dec y ≠ 0 := fun e => by
    rw [e, cmpI_self] at h5
    exact h6 (h1.2 (cmpI_eq.1 h5))
  have hyl : ¬ (y.2.length : Int) = 0 := fun e => hy0 (h3.1 e)
  have hne2 := h4 hyl
  refine ⟨fun e => ?_, fun e => ?_⟩
  · have hxn := hne.1 e
    have hyn : y.1 = true := by
      cases hy1 : y.1 with
      | true => rfl
      | false => have := hne2.2 hy1; rw [cmpI_lt hxn, cmpI_gt this] at h5; cases h5
    simp only [dec, e, hyn, if_true]
    unfold cmpI
    (repeat' split) <;> first | omega | rfl
  · have hxp := hne.2 e
    have hyn : y.1 = false := by
      cases hy1 : y.1 with
      | false => rfl
      | true => have := hne2.1 hy1; rw [cmpI_gt hxp, cmpI_lt this] at h5; cases h5
    simp only [dec, e, hyn, Bool.false_eq_true, if_false]

/-- How many digits an integer has. -/
def ndig (n : Int) : Int := ((Lib.itoa n.natAbs).length : Int)

end Go.Cm
end

section
/- Digits; small integers. No program is in sight here. -/
namespace Go.Cm
open Go.Proofs

theorem ndig_zero : ndig 0 = 1 := by
  unfold ndig
  simp [Lib.itoa]; rw [Lib.decDigits, dif_pos (by omega)]; rfl

theorem decDigits_len {u : Nat} {k v : Nat} (hv : 0 < v) (hu : u < 10 ^ k) : (Lib.decDigits (u + 10 ^ k * v)).length = (Lib.decDigits v).length + k := by
  rw [decDigits_pad k u v hv hu, List.length_append]
  unfold padTo
  split
  · simp [*]
  · rename_i hk
    have := decDigits_lt hu (by omega)
    simp; omega

/-- The digits of a number, by its greatest limb. -/
theorem dig_last : ∀ (l : List Int), Lim l → 0 < l.length → 0 < l.getLastD 1 → ((Lib.decDigits (valL l).toNat).length : Int) = 9 * ((l.length : Int) - 1) + ((Lib.itoa (l.getLastD 1)).length : Int)
  | [x], h, _, hx => by
    simp only [List.getLastD_cons, List.getLastD_nil] at hx ⊢
    simp only [valL, Int.mul_zero, Int.add_zero, List.length_cons, List.length_nil]
    unfold Lib.itoa
    rw [if_neg (by omega)]
    omega
  | x :: y :: r, h, _, hx => by
    have h2 : Lim (y :: r) := fun z hz => h z (by simp [hz])
    have hxx := h x (by simp)
    have hB : LB = 1000000000 := rfl
    have hlast : (x :: y :: r).getLastD 1 = (y :: r).getLastD 1 := by simp [List.getLastD_cons]
    rw [hlast] at hx ⊢
    have ih := dig_last (y :: r) h2 (by simp) hx
    have hpos : 0 < valL (y :: r) := (valL_pos ⟨h2, by omega⟩).2 (by simp)
    obtain ⟨u, hu⟩ := Int.eq_ofNat_of_zero_le hxx.1
    obtain ⟨v, hv⟩ := Int.eq_ofNat_of_zero_le (Int.le_of_lt hpos)
    have e : (valL (x :: y :: r)).toNat = u + 10 ^ 9 * v := by
      rw [valL, hu, hv, hB]; omega
    have hul : u < 10 ^ 9 := by have := hxx.2; rw [hu, hB] at this; omega
    rw [e, decDigits_len (by omega) hul]
    rw [hv, Int.toNat_natCast] at ih
    simp only [List.length_cons] at ih ⊢
    omega

theorem ndig_last {x : Bool × List Int} (h : WOK x) (hne : ¬ (x.2.length : Int) = 0) : ndig (dec x) = 9 * ((x.2.length : Int) - 1) + ((Lib.itoa (x.2.getLastD 1)).length : Int) := by
  have hl : 0 < x.2.length := by omega
  have hlast : 0 < x.2.getLastD 1 := by
    have h1 := h.1.2
    have h2 : x.2.getLastD 1 ∈ x.2 := by
      rw [List.getLastD_eq_getLast?, List.getLast?_eq_some_getLast (by intro e; rw [e] at hl; simp at hl)]
      exact List.getLast_mem _
    have := (h.1.1 _ h2).1
    omega
  rw [← dig_last x.2 h.1.1 hl hlast]
  unfold ndig Lib.itoa dec
  rw [if_neg (by omega)]
  have hv := valL_nonneg h.1.1
  split <;> · congr 3; omega

theorem last_lim {x : List Int} (h : Lim x) (hl : 0 < x.length) : 0 ≤ x.getLastD 1 ∧ x.getLastD 1 < LB := by
  have h2 : x.getLastD 1 ∈ x := by
    rw [List.getLastD_eq_getLast?, List.getLast?_eq_some_getLast (by intro e; rw [e] at hl; simp at hl)]
    exact List.getLast_mem _
  exact h _ h2

theorem dig_goal {x : Bool × List Int} (h : WOK x) (hc : x.2.length < CAP) (hne : ¬ (x.2.length : Int) = 0) :
    (0 ≤ IntKind.i64.wrap ((x.2.length : Int) - 1) ∧ IntKind.i64.wrap ((x.2.length : Int) - 1) < (x.2.length : Int)) ∧ nth (.int .u32) x.2 (IntKind.i64.wrap ((x.2.length : Int) - 1)) = x.2.getLastD 1 ∧
      IntKind.i64.wrap (x.2.getLastD 1) = x.2.getLastD 1 ∧ IntKind.i64.wrap (IntKind.i64.wrap (9 * IntKind.i64.wrap ((x.2.length : Int) - 1)) + ((Lib.itoa (x.2.getLastD 1)).length : Int)) = ndig (dec x) := by
  have hc : x.2.length < 1000000000000 := hc
  have hl : 0 < x.2.length := by omega
  have h1 := last_lim h.1.1 hl
  have h2 := itoa_le h1.1 h1.2
  have hB : LB = 1000000000 := rfl
  rw [wi (by omega) (by omega), last_eq hl, wi (x := 9 * _) (by omega) (by omega), wi (x := x.2.getLastD 1) (by omega) (by omega), wi (by omega) (by omega), ndig_last h hne]
  exact ⟨⟨by omega, by omega⟩, rfl, rfl, rfl⟩

theorem u64_mod (x : Int) : IntKind.u64.wrap x = x % 18446744073709551616 := by
  simp [IntKind.wrap, IntKind.signed, IntKind.bits]

theorem small_abs {n : Int} (h : I64 n) : (n < 0 → IntKind.u64.wrap (0 - IntKind.u64.wrap n) = (n.natAbs : Int)) ∧ (¬ n < 0 → IntKind.u64.wrap n = (n.natAbs : Int)) := by
  unfold I64 at h
  refine ⟨fun hn => ?_, fun hn => ?_⟩
  · rw [u64_mod, u64_mod]; omega
  · rw [w64 (by omega) (by omega)]; omega

theorem small_round {u : Nat} {m : List Int} {n : Nat} (g1 : m ++ limbs u = limbs n) (g2 : u < 18446744073709551616) (h : 0 < (u : Int)) :
    ∃ a : Nat, IntKind.u64.wrap ((u : Int).tdiv 1000000000) = (a : Int) ∧ m ++ [IntKind.u32.wrap ((u : Int).tmod 1000000000)] ++ limbs a = limbs n ∧ a < 18446744073709551616 ∧ a < u := by
  have hB : LB = 1000000000 := rfl
  obtain ⟨e1, e2⟩ := tdiv_nn (n := (u : Int)) (by omega)
  rw [e1, e2, hB]
  refine ⟨u / 1000000000, ?_, ?_, by omega, by omega⟩
  · rw [w64 (by omega) (by omega)]; omega
  · rw [w32 (by omega) (by omega), ← g1]
    conv => rhs; rw [limbs, dif_neg (by omega)]
    simp

theorem limbs_len3 {n : Nat} (h : n < 18446744073709551616) : (limbs n).length ≤ 3 := limbs_len (k := 3) (by
  have : LB ^ 3 = 1000000000000000000000000000 := rfl
  rw [this]; omega)

theorem enc_small {n : Int} (h : I64 n) : WOK (enc n) ∧ (enc n).2.length < CAP ∧ (enc n).2.length ≤ 3 := by
  unfold I64 at h
  have := limbs_len3 (n := n.natAbs) (by omega)
  exact ⟨enc_ok n, Nat.lt_of_le_of_lt this (by unfold CAP; omega), this⟩

end Go.Cm
end

section
/- Limbs from the greatest on: values, short division. No program is in sight here. -/
namespace Go.Cm
open Go.Proofs

theorem drop_all {l : List Int} : l.drop (l.length - 0) = [] := by simp

theorem value_round {m : List Int} {k : Nat} {z : Int} (hm : Lim m) (h2 : m.length ≤ 2) (hk : k < m.length) (hz : z = valL (m.drop (m.length - k))) :
    IntKind.u64.wrap (IntKind.u64.wrap (z * 1000000000) + IntKind.u64.wrap (m.getD (m.length - 1 - k) 0)) = valL (m.drop (m.length - (k + 1))) := by
  have hB : LB = 1000000000 := rfl
  have hx := hm.getD (m.length - 1 - k)
  have hs := valL_take_step hk
  have hl : Lim (m.drop (m.length - k)) := fun x hx => hm x (List.mem_of_mem_drop hx)
  have h0 := valL_nonneg hl
  have h1 := valL_lt hl
  have h3 : (m.drop (m.length - k)).length = k := by simp; omega
  rw [h3] at h1
  have h4 : LB ^ k ≤ LB ^ 1 := pow_mono (by omega)
  have h5 : LB ^ 1 = 1000000000 := rfl
  rw [← hz] at h0 h1 hs
  rw [show m.length - (k + 1) = m.length - 1 - k by omega, hs]
  rw [hB] at hx ⊢
  rw [w64 hx.1 (by omega), w64 (x := z * 1000000000) (by omega) (by omega), w64 (by omega) (by omega)]
  omega

theorem set_drop {l : List Int} {j : Nat} {v : Int} (h : j < l.length) : (l.set j v).drop j = v :: l.drop (j + 1) := by
  rw [List.set_eq_take_append_cons_drop, if_pos h, List.drop_append_of_le_length (by simp; omega)]
  simp [List.drop_take]

theorem set_drop_gt {l : List Int} {i j : Nat} {v : Int} (h : i < j) : (l.set i v).drop j = l.drop j := by
  rw [List.drop_set]; simp; omega

theorem short_round {m out : List Int} {k : Nat} {r b : Int} (hm : Lim m) (hb0 : 0 < b) (hb1 : b < LB) (hk : k < m.length) (g1 : out.length = m.length) (g2 : Lim out) (g3 : 0 ≤ r) (g4 : r < b)
    (g5 : valL (out.drop (m.length - k)) * b + r = valL (m.drop (m.length - k))) {n : Int} (hn : n = r * 1000000000 + m.getD (m.length - 1 - k) 0) :
    0 ≤ n ∧ n < 18446744073709551616 ∧ 0 ≤ n / b ∧ n / b < LB ∧ (out.set (m.length - 1 - k) (n / b)).length = m.length ∧ Lim (out.set (m.length - 1 - k) (n / b)) ∧ 0 ≤ n % b ∧ n % b < b ∧
      valL ((out.set (m.length - 1 - k) (n / b)).drop (m.length - (k + 1))) * b + n % b = valL (m.drop (m.length - (k + 1))) := by
  have hB : LB = 1000000000 := rfl
  have hx := hm.getD (m.length - 1 - k)
  have hs := valL_take_step hk
  have h0 : 0 ≤ r * 1000000000 := by omega
  have hq : n / b < LB := Int.ediv_lt_of_lt_mul hb0 (by
    have : r * LB + LB ≤ b * LB := by
      have h := Int.mul_le_mul_of_nonneg_right (show r + 1 ≤ b by omega) (show (0 : Int) ≤ LB by decide)
      rw [Int.add_mul, Int.one_mul] at h; exact h
    rw [hB] at this hx ⊢
    rw [Int.mul_comm]; omega)
  have hq0 : 0 ≤ n / b := Int.ediv_nonneg (by omega) (by omega)
  have e : n % b + b * (n / b) = n := Int.emod_add_mul_ediv n b
  refine ⟨by omega, by rw [hB] at hx hb1; omega, hq0, hq, by simp [g1], set_lim g2 hq0 hq, Int.emod_nonneg _ (by omega), Int.emod_lt_of_pos _ hb0, ?_⟩
  rw [show m.length - (k + 1) = m.length - 1 - k by omega, hs, set_drop (by omega), valL, show m.length - 1 - k + 1 = m.length - k by omega, ← g5, Int.add_mul, Int.mul_assoc, Int.mul_add, Int.mul_comm (n / b)]
  have hLr : LB * r = r * 1000000000 := by rw [hB, Int.mul_comm]
  omega

def Dig1 (b : Int) : Prop := 0 < b ∧ b < LB
def Dig0 (b : Int) : Prop := 0 ≤ b ∧ b < LB
def ShortPhi (m : List Int) (b : Int) (k : Nat) (r : Int) (out : List Int) : Prop :=
  out.length = m.length ∧ Lim out ∧ 0 ≤ r ∧ r < b ∧ valL (out.drop (m.length - k)) * b + r = valL (m.drop (m.length - k))
def ScaledPhi (m : List Int) (b : Int) (k : Nat) (c : Int) (out : List Int) : Prop :=
  k ≤ m.length ∧ out.length = k ∧ Lim out ∧ 0 ≤ c ∧ c < LB ∧ valL out + LB ^ k * c = valL (m.take k) * b

theorem short_fin {m out : List Int} {r b : Int} (hm : Lim m) (hb0 : 0 < b) (g1 : out.length = m.length) (g2 : Lim out) (g3 : 0 ≤ r) (g4 : r < b) (g5 : valL out * b + r = valL m) :
    out = padL (valL m / b).toNat m.length ∧ r = valL m % b := by
  have h0 := valL_nonneg g2
  have e1 : valL m / b = valL out := by
    rw [← g5, Int.add_comm, Int.add_mul_ediv_right _ _ (by omega), Int.ediv_eq_zero_of_lt g3 g4, Int.zero_add]
  have e2 : valL m % b = r := by
    rw [← g5, Int.add_comm, Int.add_mul_emod_self_right, Int.emod_eq_of_lt g3 g4]
  exact ⟨g2.pad g1 (by rw [e1]; omega), e2.symm⟩

theorem scaled_round {m out : List Int} {k : Nat} {c b : Int} (hm : Lim m) (hb0 : 0 ≤ b) (hb1 : b < LB) (g2 : out.length = k) (g3 : Lim out) (g4 : 0 ≤ c) (g5 : c < LB) (g6 : valL out + LB ^ k * c = valL (m.take k) * b) :
    IntKind.u64.wrap (IntKind.u64.wrap (IntKind.u64.wrap (m.getD k 0) * IntKind.u64.wrap b) + c) = m.getD k 0 * b + c ∧ IntKind.u32.wrap ((m.getD k 0 * b + c).tmod 1000000000) = (m.getD k 0 * b + c) % LB ∧ IntKind.u64.wrap ((m.getD k 0 * b + c).tdiv 1000000000) = (m.getD k 0 * b + c) / LB ∧
      Lim (out ++ [(m.getD k 0 * b + c) % LB]) ∧ 0 ≤ (m.getD k 0 * b + c) / LB ∧ (m.getD k 0 * b + c) / LB < LB ∧ valL (out ++ [(m.getD k 0 * b + c) % LB]) + LB ^ (k + 1) * ((m.getD k 0 * b + c) / LB) = valL (m.take (k + 1)) * b := by
  have hx := hm.getD k
  have hbd := mul_bound hx ⟨hb0, hb1⟩ (a := 0) (c := c) ⟨by omega, by decide⟩ ⟨g4, g5⟩
  have hB : LB = 1000000000 := rfl
  have h4 : LB * LB = 1000000000000000000 := rfl
  obtain ⟨n, hn⟩ : ∃ n, n = m.getD k 0 * b + c := ⟨_, rfl⟩
  have hn0 : 0 ≤ n := by omega
  have hn1 : n < LB * LB := by omega
  obtain ⟨e1, e2, e3⟩ := two_limbs hn0 hn1
  have hr : 0 ≤ n % LB ∧ n % LB < LB := ⟨Int.emod_nonneg _ (by decide), Int.emod_lt_of_pos _ (by decide)⟩
  rw [w64 hx.1 (by omega), w64 hb0 (by omega), w64 hbd.1 (by omega), ← hn]
  refine ⟨e1, e2, e3, g3.append (Lim.one hr.1 hr.2), Int.ediv_nonneg hn0 (by decide), Int.ediv_lt_of_lt_mul (by decide) hn1, ?_⟩
  rw [valL_append, valL_one, g2, take_val, Int.pow_succ]
  have h1 : n % LB + LB * (n / LB) = n := Int.emod_add_mul_ediv n LB
  have h2 : LB ^ k * (n % LB) + LB ^ k * LB * (n / LB) = LB ^ k * n := by rw [Int.mul_assoc, ← Int.mul_add, h1]
  have h3 : LB ^ k * n = LB ^ k * m.getD k 0 * b + LB ^ k * c := by rw [hn, Int.mul_add, Int.mul_assoc]
  rw [Int.add_mul]
  omega

theorem scaled_fin {m out : List Int} {c b : Int} (hm : Lim m) (hb0 : 0 ≤ b) (g2 : out.length = m.length) (g3 : Lim out) (g4 : 0 ≤ c) (g5 : c < LB) (g6 : valL out + LB ^ m.length * c = valL m * b) :
    out ++ [IntKind.u32.wrap c] = padL (valL m * b).toNat (m.length + 1) := by
  have hB : LB = 1000000000 := rfl
  rw [w32 g4 (by omega)]
  refine (g3.append (Lim.one g4 g5)).pad (by simp [g2]) ?_
  have h0 : 0 ≤ valL m * b := Int.mul_nonneg (valL_nonneg hm) hb0
  rw [valL_append, valL_one, g2, g6]; omega

end Go.Cm
end

section
/- Short division, scaling, the way back to 64 bits: the rounds as the code writes them. No program is in sight here. -/
namespace Go.Cm
open Go.Proofs

theorem short_start {m : List Int} {b : Int} (hb : Dig1 b) : ShortPhi m b 0 0 (List.replicate m.length 0) := by
  obtain ⟨r1, r2, r3⟩ := replicate_zero m.length
  refine ⟨by simp, r1, Int.le_refl _, hb.1, ?_⟩
  simp [valL]

theorem short_idx {len k : Nat} (h : k < len) : ((len : Int) - 1 - (k : Int)).toNat = len - 1 - k := by omega

theorem short_next {m out : List Int} {k : Nat} {r b : Int} (hm : Lim m) (hb : Dig1 b) (hk : k < m.length) (h : ShortPhi m b k r out) :
    ShortPhi m b (k + 1) ((IntKind.u64.wrap (IntKind.u64.wrap (r * 1000000000) + IntKind.u64.wrap (m.getD (m.length - 1 - k) 0))).tmod (IntKind.u64.wrap b))
      (out.set ((m.length : Int) - 1 - (k : Int)).toNat (IntKind.u32.wrap (IntKind.u64.wrap ((IntKind.u64.wrap (IntKind.u64.wrap (r * 1000000000) + IntKind.u64.wrap (m.getD (m.length - 1 - k) 0))).tdiv (IntKind.u64.wrap b))))) := by
  obtain ⟨g1, g2, g3, g4, g5⟩ := h
  obtain ⟨b0, b1⟩ := hb
  obtain ⟨n0, n1, n2, n3, n4, n5, n6, n7, n8⟩ := short_round hm b0 b1 hk g1 g2 g3 g4 g5 rfl
  have hx := hm.getD (m.length - 1 - k)
  have hB : LB = 1000000000 := rfl
  have e1 : r * 1000000000 ≤ 1000000000 * 1000000000 := Int.mul_le_mul_of_nonneg_right (by omega) (by decide)
  rw [w64 hx.1 (by omega), w64 (x := r * 1000000000) (by omega) (by omega), w64 (x := b) (by omega) (by omega), w64 n0 n1, Int.tdiv_eq_ediv_of_nonneg n0, Int.tmod_eq_emod_of_nonneg n0, w64 n2 (by omega), w32 n2 (by omega), short_idx hk]
  exact ⟨n4, n5, n6, n7, n8⟩

theorem dig1_ne {b : Int} (hb : Dig1 b) : IntKind.u64.wrap b ≠ 0 := by
  obtain ⟨b0, b1⟩ := hb
  have hB : LB = 1000000000 := rfl
  rw [w64 (by omega) (by omega)]; omega

theorem short_end {m out : List Int} {r b : Int} (hm : Lim m) (hb : Dig1 b) (h : ShortPhi m b m.length r out) :
    out = padL (valL m / b).toNat m.length ∧ IntKind.u32.wrap r = valL m % b := by
  obtain ⟨g1, g2, g3, g4, g5⟩ := h
  have hB : LB = 1000000000 := rfl
  obtain ⟨b0, b1⟩ := hb
  rw [Nat.sub_self, List.drop_zero, List.drop_zero] at g5
  obtain ⟨h1, h2⟩ := short_fin hm b0 g1 g2 g3 g4 g5
  rw [w32 g3 (by omega)]
  exact ⟨h1, h2⟩

theorem scaled_start {m : List Int} {b : Int} : ScaledPhi m b 0 0 [] := by
  refine ⟨by omega, rfl, fun x hx => by simp at hx, by decide, by decide, by simp [valL]⟩

theorem scaled_next {m out : List Int} {k : Nat} {c b : Int} (hm : Lim m) (hl : m.length < CAP) (hb : Dig0 b) (hk : (k : Int) < (m.length : Int)) (h : ScaledPhi m b k c out) :
    ∃ a : Nat, IntKind.i64.wrap ((k : Int) + 1) = (a : Int) ∧ ScaledPhi m b a
      (IntKind.u64.wrap ((IntKind.u64.wrap (IntKind.u64.wrap (IntKind.u64.wrap (nth (Ty.int IntKind.u32) m (k : Int)) * IntKind.u64.wrap b) + c)).tdiv 1000000000))
      (out ++ [IntKind.u32.wrap ((IntKind.u64.wrap (IntKind.u64.wrap (IntKind.u64.wrap (nth (Ty.int IntKind.u32) m (k : Int)) * IntKind.u64.wrap b) + c)).tmod 1000000000)]) ∧ m.length - a < m.length - k := by
  obtain ⟨g1, g2, g3, g4, g5, g6⟩ := h
  have hC : CAP = 1000000000000 := rfl
  obtain ⟨q1, q2, q3, q4, q5, q6, q7⟩ := scaled_round hm hb.1 hb.2 g2 g3 g4 g5 g6
  refine ⟨k + 1, by rw [wi (by omega) (by omega)]; simp, ?_, by omega⟩
  rw [nth32, q1, q2, q3]
  exact ⟨by omega, by simp [g2], q4, q5, q6, q7⟩

theorem scaled_end {m out : List Int} {k : Nat} {c b : Int} (hm : Lim m) (hb : Dig0 b) (hk : ¬ (k : Int) < (m.length : Int)) (h : ScaledPhi m b k c out) :
    out ++ [IntKind.u32.wrap c] = padL (valL m * b).toNat (m.length + 1) := by
  obtain ⟨g1, g2, g3, g4, g5, g6⟩ := h
  have : k = m.length := by omega
  subst this
  rw [List.take_length] at g6
  exact scaled_fin hm hb.1 g2 g3 g4 g5 g6

/-- Does it fit in 64 bits? -/
def inI64 (n : Int) : Bool := decide (-9223372036854775808 ≤ n) && decide (n ≤ 9223372036854775807)

theorem inI64_cond (n : Int) : (decide (cmpI n (dec (enc (-9223372036854775808))) < 0) || decide (0 < cmpI n (dec (enc 9223372036854775807)))) = !inI64 n := by
  rw [dec_enc, dec_enc]
  unfold inI64 cmpI
  split <;> rename_i h1
  · simp; omega
  · split <;> rename_i h2
    · split <;> rename_i h3
      · simp; omega
      · split <;> rename_i h4
        · simp; omega
        · simp; omega
    · split <;> rename_i h3
      · simp; omega
      · split <;> rename_i h4
        · simp; omega
        · simp; omega

theorem drop_le {l : List Int} (hl : Lim l) (j : Nat) : valL (l.drop j) ≤ valL l := by
  have h := valL_append (l.take j) (l.drop j)
  rw [List.take_append_drop] at h
  have h0 := valL_nonneg (l := l.take j) (fun x hx => hl x (List.mem_of_mem_take hx))
  have h1 := valL_nonneg (l := l.drop j) (fun x hx => hl x (List.mem_of_mem_drop hx))
  have h2 : 1 * valL (l.drop j) ≤ LB ^ (l.take j).length * valL (l.drop j) := Int.mul_le_mul_of_nonneg_right (by
    have := pow_mono (a := 0) (b := (l.take j).length) (by omega)
    simpa using this) h1
  omega

theorem int_round {x : Bool × List Int} {k : Nat} {z : Int} (hx : WOK x) (hi : inI64 (dec x) = true) (hk : k < x.2.length) (hz : z = - valL (x.2.drop (x.2.length - k))) :
    IntKind.i64.wrap (IntKind.i64.wrap (1000000000 * z) - IntKind.i64.wrap (x.2.getD (x.2.length - 1 - k) 0)) = - valL (x.2.drop (x.2.length - (k + 1))) := by
  have hv : valL x.2 ≤ 9223372036854775808 := by
    unfold inI64 dec at hi
    split at hi <;> simp at hi <;> omega
  have hl := hx.1.1
  have hs := valL_take_step hk
  have hg := hl.getD (x.2.length - 1 - k)
  have hd := drop_le hl (x.2.length - 1 - k)
  have h0 := valL_nonneg (l := x.2.drop (x.2.length - k)) (fun y hy => hl y (List.mem_of_mem_drop hy))
  have hB : LB = 1000000000 := rfl
  rw [show x.2.length - (k + 1) = x.2.length - 1 - k by omega, hs]
  rw [hs] at hd
  rw [hB] at hg hd ⊢
  rw [wi (x := x.2.getD (x.2.length - 1 - k) 0) (by omega) (by omega), wi (x := 1000000000 * z) (by omega) (by omega), wi (by omega) (by omega)]
  omega

theorem int_fin {x : Bool × List Int} (hx : WOK x) (hi : inI64 (dec x) = true) {z : Int} (hz : z = - valL x.2) : (x.1 = true → z = dec x) ∧ (x.1 = false → IntKind.i64.wrap (0 - z) = dec x) := by
  refine ⟨fun h => by rw [hz, dec, if_pos h], fun h => ?_⟩
  have e : dec x = valL x.2 := by rw [dec, h]; rfl
  rw [hz, e]
  rw [e] at hi
  simp [inI64] at hi
  rw [show 0 - - valL x.2 = valL x.2 by omega, wi (by omega) (by omega)]

end Go.Cm
end

section
/- Texts read: the check and the reading. No program is in sight here. -/
namespace Go.Cm
open Go.Proofs

theorem trim_len (s p : List UInt8) : (trimPre s p).length ≤ s.length := by
  unfold trimPre; split <;> simp

theorem chk_zero : chk [48] = 0 := by decide

theorem chk_first {s : List UInt8} (h0 : s ≠ [48]) (h : trimPre s [45] = [] ∨ (trimPre s [45]).getD 0 0 = 48) : chk s = 5 := by
  unfold chk
  rw [if_neg h0, if_pos (h.imp (fun h => by rw [h]; rfl) id)]

theorem isDig_of {c : UInt8} (h1 : ¬ (c.toNat : Int) < 48) (h2 : ¬ (57 : Int) < (c.toNat : Int)) : isDig c = true := by
  unfold isDig
  simp; omega

theorem chk_bad {s : List UInt8} {k : Nat} (h0 : s ≠ [48]) (h : ¬ (trimPre s [45] = [] ∨ (trimPre s [45]).getD 0 0 = 48)) (hk : k < (trimPre s [45]).length)
    (hb : ((trimPre s [45]).getD k 0).toNat < 48 ∨ 57 < ((trimPre s [45]).getD k 0).toNat) : chk s = 5 := by
  unfold chk
  rw [if_neg h0, if_neg (fun h' => h (h'.imp (fun h => List.eq_nil_of_length_eq_zero h) id)), if_pos]
  rw [Bool.eq_false_iff]
  intro ha
  have := List.all_eq_true.1 ha ((trimPre s [45]).getD k 0) (by
    rw [List.getD_eq_getElem?_getD, List.getElem?_eq_getElem hk]; exact List.getElem_mem hk)
  unfold isDig at this
  simp only [Bool.and_eq_true, decide_eq_true_eq] at this; omega

theorem chk_good {s : List UInt8} (h0 : s ≠ [48]) (h : ¬ (trimPre s [45] = [] ∨ (trimPre s [45]).getD 0 0 = 48)) (ha : (trimPre s [45]).all isDig = true) :
    chk s = if 2000 < (trimPre s [45]).length then 6 else 0 := by
  unfold chk
  rw [if_neg h0, if_neg (fun h' => h (h'.imp (fun h => List.eq_nil_of_length_eq_zero h) id)), if_neg (by rw [ha]; decide)]

theorem all_take_succ {l : List UInt8} {k : Nat} (h : (l.take k).all isDig = true) (hd : isDig (l.getD k 0) = true) : (l.take (k + 1)).all isDig = true := by
  by_cases hk : k < l.length
  · rw [List.take_add_one, List.all_append, h, List.getElem?_eq_getElem hk]
    rw [List.getD_eq_getElem?_getD, List.getElem?_eq_getElem hk] at hd
    simpa using hd
  · rw [List.take_of_length_le (by omega)] at h ⊢; exact h

theorem bytes_len (l : List UInt8) : (bytesOf l).length = l.length := by simp [bytesOf]
theorem bytes_get (l : List UInt8) (k : Nat) : nth (.int .u8) (bytesOf l) (k : Int) = ((l.getD k 0).toNat : Int) := by
  show (bytesOf l).getD (k : Int).toNat 0 = _
  rw [Int.toNat_natCast, bytesOf]
  simp only [List.getD_eq_getElem?_getD, List.getElem?_map]
  cases l[k]? <;> simp

theorem hasPre_len {s p : List UInt8} (hp : 0 < p.length) : hasPre s p = decide ((trimPre s p).length < s.length) := by
  unfold trimPre
  split <;> rename_i h
  · rw [h]
    unfold hasPre at h
    simp only [Bool.and_eq_true, decide_eq_true_eq] at h
    simp; omega
  · simp only [Bool.not_eq_true] at h; rw [h]; simp

theorem numOf_append (a b : List UInt8) : numOf (a ++ b) = numOf a * 10 ^ b.length + numOf b := by
  have key : ∀ (b : List UInt8) (x : Nat), b.foldl (fun n c => n * 10 + (c.toNat - 48)) x = x * 10 ^ b.length + b.foldl (fun n c => n * 10 + (c.toNat - 48)) 0 := by
    intro b
    induction b with
    | nil => intro x; simp
    | cons c b ih =>
      intro x
      rw [List.foldl_cons, ih, List.foldl_cons, ih (0 * 10 + (c.toNat - 48)), List.length_cons, Nat.pow_succ]
      rw [Nat.zero_mul, Nat.zero_add, Nat.add_mul, Nat.mul_assoc, Nat.mul_comm 10, Nat.add_assoc]
  unfold numOf
  rw [List.foldl_append, key]

/-- After r rounds of reading. -/
def ReadPhi (D : List UInt8) (r : Nat) (out : List Int) : Prop :=
  out.length = r ∧ Lim out ∧ valL out = (numOf (D.drop (D.length - 9 * r)) : Int) ∧ 9 * r < D.length + 9

theorem read_start {D : List UInt8} : ReadPhi D 0 [] := by
  refine ⟨rfl, fun x hx => by simp at hx, ?_, by omega⟩
  simp [valL, numOf]

theorem pow9 (r : Nat) : (LB ^ r : Int) = ((10 ^ (9 * r) : Nat) : Int) := by
  rw [Nat.pow_mul]
  show (1000000000 : Int) ^ r = ((1000000000 ^ r : Nat) : Int)
  rw [Int.natCast_pow]; rfl

theorem read_next {D : List UInt8} {r : Nat} {out : List Int} (hd : Digits D) (h : ReadPhi D r out) (hr : 0 < (D.length : Int) - 9 * (r : Int)) {c : List UInt8}
    (hc : c = (D.take (D.length - 9 * r)).drop (D.length - 9 * (r + 1))) :
    c ≠ [] ∧ Digits c ∧ c.length ≤ 9 ∧ ReadPhi D (r + 1) (out ++ [IntKind.u32.wrap (numOf c)]) ∧ D.length - 9 * (r + 1) ≤ D.length - 9 * r := by
  obtain ⟨h1, h2, h3, h4⟩ := h
  have hl : c.length = (D.length - 9 * r) - (D.length - 9 * (r + 1)) := by rw [hc, List.length_drop, List.length_take]; omega
  have hdc : Digits c := fun x hx => hd x (by rw [hc] at hx; exact List.mem_of_mem_take (List.mem_of_mem_drop hx))
  have hn := numOf_lt hdc
  have hn9 : 10 ^ c.length ≤ 10 ^ 9 := Nat.pow_le_pow_right (by omega) (by omega)
  have e : D.drop (D.length - 9 * (r + 1)) = c ++ D.drop (D.length - 9 * r) := by
    rw [hc]
    have hle : D.length - 9 * (r + 1) ≤ D.length - 9 * r := by omega
    have hle2 : D.length - 9 * r ≤ D.length := by omega
    generalize D.length - 9 * (r + 1) = j at hle
    generalize D.length - 9 * r = i at hle hle2
    conv => lhs; rw [← List.take_append_drop i D]
    rw [List.drop_append_of_le_length (by rw [List.length_take]; omega)]
  have hB : LB = 1000000000 := rfl
  have hw : IntKind.u32.wrap (numOf c : Int) = (numOf c : Int) := w32 (by omega) (by omega)
  refine ⟨fun h0 => by rw [h0] at hl; simp at hl; omega, hdc, by omega, ⟨by simp [h1], ?_, ?_, by omega⟩, by omega⟩
  · rw [hw]; exact h2.append (Lim.one (by omega) (by omega))
  · rw [hw, valL_append, valL_one, h3, h1, e, numOf_append, pow9, show (D.drop (D.length - 9 * r)).length = 9 * r by rw [List.length_drop]; omega]
    rw [Int.natCast_add, Int.natCast_mul, Int.mul_comm, Int.add_comm]

theorem read_end {s : List UInt8} {r : Nat} {out : List Int} (h : ReadPhi (trimPre s [45]) r out) (hr : ¬ 0 < ((trimPre s [45]).length : Int) - 9 * (r : Int)) :
    dec (decide ((trimPre s [45]).length < s.length), out) = numI s := by
  obtain ⟨h1, h2, h3, h4⟩ := h
  rw [show (trimPre s [45]).length - 9 * r = 0 by omega, List.drop_zero] at h3
  unfold dec numI
  rw [hasPre_len (by simp)]
  simp only [h3]

/-- The error of the texts, and the integers of them all. -/
def chkAll : List (List UInt8) → Int
  | [] => 0
  | s :: r => if chk s = 0 then chkAll r else chk s
def readAll (l : List (List UInt8)) : List (Bool × List Int) := if chkAll l = 0 then l.map fun s => enc (numI s) else []

theorem chkAll_take {l : List (List UInt8)} {k : Nat} (h : ∀ s ∈ l.take k, chk s = 0) (hk : k < l.length) (hc : chk (l.getD k []) ≠ 0) : chkAll l = chk (l.getD k []) := by
  induction l generalizing k with
  | nil => simp at hk
  | cons x l ih => cases k with
    | zero => simp only [List.getD_cons_zero] at hc ⊢; rw [chkAll, if_neg hc]
    | succ k =>
      simp only [List.getD_cons_succ] at hc ⊢
      rw [chkAll, if_pos (h x (by simp))]
      exact ih (fun s hs => h s (by simp [hs])) (by simpa using hk) hc

theorem chkAll_all {l : List (List UInt8)} (h : ∀ s ∈ l, chk s = 0) : chkAll l = 0 := by
  induction l with
  | nil => rfl
  | cons x l ih => rw [chkAll, if_pos (h x (by simp))]; exact ih fun s hs => h s (by simp [hs])

theorem chkAll_ok {l : List (List UInt8)} (h : chkAll l = 0) : ∀ s ∈ l, chk s = 0 := by
  induction l with
  | nil => intro s hs; simp at hs
  | cons x l ih =>
    rw [chkAll] at h
    split at h
    · rename_i h0
      intro s hs
      rcases List.mem_cons.1 hs with rfl | hs
      · exact h0
      · exact ih h s hs
    · rename_i h0; exact absurd h h0

/-- Texts short enough to work on. -/
def Short (s : List UInt8) : Prop := s.length < 70368744177664
def Shorts (l : List (List UInt8)) : Prop := l.length < CAP ∧ ∀ s ∈ l, Short s

theorem read_idx {D : List UInt8} {r : Nat} (hr : 0 < (D.length : Int) - 9 * (r : Int)) (hl : D.length ≤ 2000) :
    IntKind.i64.wrap ((D.length : Int) - 9 * (r : Int) - 9) = (D.length : Int) - 9 * (r : Int) - 9 ∧ Int.toNat (max 0 ((D.length : Int) - 9 * (r : Int) - 9)) = D.length - 9 * (r + 1) ∧ Int.toNat ((D.length : Int) - 9 * (r : Int)) = D.length - 9 * r :=
  ⟨wi (by omega) (by omega), by omega, by omega⟩

theorem idx_side (D : List UInt8) : ((!D == []) = true → (!D == []) = true ∧ (0 : Int) ≤ 0 ∧ (0 : Int) < (D.length : Int)) ∧ ((!D == []) = true → (!D == []) = true) ∧ ((D == []) = false → (!D == []) = true) := by
  cases D with
  | nil => simp
  | cons c l => exact ⟨fun h => ⟨h, by omega, by simp⟩, fun h => h, fun h => by rw [h]; rfl⟩

theorem first_iff (D : List UInt8) : (D == [] || ((D.getD (Int.toNat 0) 0).toNat : Int) == 48) = true ↔ (D = [] ∨ D.getD 0 0 = 48) := by
  have e : ∀ c : UInt8, ((c.toNat : Int) == 48) = true ↔ c = 48 := fun c => by
    rw [beq_iff_eq]
    constructor
    · intro h; exact UInt8.toNat.inj (by show c.toNat = 48; omega)
    · rintro rfl; rfl
  rw [Bool.or_eq_true, e]
  simp

theorem first_not {D : List UInt8} (h : (D == [] || ((D.getD (Int.toNat 0) 0).toNat : Int) == 48) = false) : ¬ (D = [] ∨ D.getD 0 0 = 48) := by
  rw [← first_iff, h]; decide

theorem byte_bad {D : List UInt8} {k : Nat} (h : (decide (nth (Ty.int IntKind.u8) (bytesOf D) (k : Int) < 48) || decide (57 < nth (Ty.int IntKind.u8) (bytesOf D) (k : Int))) = true) :
    (D.getD k 0).toNat < 48 ∨ 57 < (D.getD k 0).toNat := by
  rw [bytes_get] at h
  simp only [Bool.or_eq_true, decide_eq_true_eq] at h
  refine h.imp (fun h => ?_) (fun h => ?_)
  · have h' : ((D.getD k 0).toNat : Int) < 48 := h
    omega
  · have h' : (57 : Int) < ((D.getD k 0).toNat : Int) := h
    omega

theorem byte_good {D : List UInt8} {k : Nat} (h : (decide (nth (Ty.int IntKind.u8) (bytesOf D) (k : Int) < 48) || decide (57 < nth (Ty.int IntKind.u8) (bytesOf D) (k : Int))) = false) : isDig (D.getD k 0) = true := by
  rw [bytes_get] at h
  simp only [Bool.or_eq_false_iff, decide_eq_false_iff_not] at h
  exact isDig_of h.1 h.2

end Go.Cm
end

section
/- Lists of texts read. No program is in sight here. -/
namespace Go.Cm
open Go.Proofs

def ReadsPhi (l : List (List UInt8)) (k : Nat) (out : List (Bool × List Int)) : Prop :=
  k ≤ l.length ∧ (∀ s ∈ l.take k, chk s = 0) ∧ out = (l.take k).map fun s => enc (numI s)

theorem reads_start {l : List (List UInt8)} : ReadsPhi l 0 [] := ⟨Nat.zero_le _, by simp, by simp⟩

theorem nth_str {l : List (List UInt8)} {k : Nat} : nth .str l (k : Int) = l.getD k [] := rfl

theorem getD_mem {α} {l : List α} {k : Nat} {d : α} (h : k < l.length) : l.getD k d ∈ l := by
  rw [List.getD_eq_getElem?_getD, List.getElem?_eq_getElem h]; exact List.getElem_mem h

theorem reads_short {l : List (List UInt8)} {k : Nat} (hS : Shorts l) (hk : (k : Int) < (l.length : Int)) : Short (nth .str l (k : Int)) := hS.2 _ (getD_mem (by omega))

theorem reads_bad {l : List (List UInt8)} {k : Nat} {out : List (Bool × List Int)} (h : ReadsPhi l k out) (hk : (k : Int) < (l.length : Int)) (hb : chk (nth .str l (k : Int)) ≠ 0) :
    [] = readAll l ∧ chk (nth .str l (k : Int)) = chkAll l := by
  have e := chkAll_take h.2.1 (by omega) hb
  refine ⟨?_, e.symm⟩
  unfold readAll
  rw [if_neg (by rw [e]; exact hb)]

theorem reads_next {l : List (List UInt8)} {k : Nat} {out : List (Bool × List Int)} (hS : Shorts l) (h : ReadsPhi l k out) (hk : (k : Int) < (l.length : Int)) (hb : chk (nth .str l (k : Int)) = 0) :
    ∃ a : Nat, IntKind.i64.wrap ((k : Int) + 1) = (a : Int) ∧ ReadsPhi l a (out ++ [enc (numI (nth .str l (k : Int)))]) ∧ l.length - a < l.length - k := by
  have hC : l.length < 1000000000000 := hS.1
  obtain ⟨h1, h2, h3⟩ := h
  have hk' : k < l.length := by omega
  have e : l.take (k + 1) = l.take k ++ [l.getD k []] := by
    rw [List.take_add_one, List.getD_eq_getElem?_getD, List.getElem?_eq_getElem hk']; rfl
  refine ⟨k + 1, by rw [wi (by omega) (by omega)]; simp, ⟨by omega, fun s hs => ?_, ?_⟩, by omega⟩
  · rw [e] at hs
    rcases List.mem_append.1 hs with hs | hs
    · exact h2 s hs
    · simp only [List.mem_singleton] at hs; rw [hs]; exact hb
  · rw [e, List.map_append, h3]; rfl

theorem reads_end {l : List (List UInt8)} {k : Nat} {out : List (Bool × List Int)} (h : ReadsPhi l k out) (hk : ¬ (k : Int) < (l.length : Int)) : out = readAll l ∧ 0 = chkAll l := by
  obtain ⟨h1, h2, h3⟩ := h
  rw [List.take_of_length_le (by omega)] at h2 h3
  have e := chkAll_all h2
  exact ⟨by rw [h3, readAll, if_pos e], e.symm⟩

theorem read_ok {s : List UInt8} (h : chk s = 0) : (enc (numI s)).2.length ≤ 223 := by
  obtain ⟨d1, d2, d3, d4⟩ := chk_ok h
  refine limbs_len (k := 223) ?_
  rw [pow9]
  have h1 := numOf_lt d1
  have h2 : 10 ^ (trimPre s [45]).length ≤ 10 ^ 2007 := pow10_mono _ 2007 (by omega)
  have h3 : (numI s).natAbs = numOf (trimPre s [45]) := by unfold numI; split <;> omega
  rw [h3]
  exact Int.ofNat_lt.2 (by omega)

end Go.Cm
end

section
/- A multiple of a number taken from a window of limbs, and given back. No program is in sight here. -/
namespace Go.Cm
open Go.Proofs

/-- The first k limbs hold v, cut to k limbs. -/
def put (xs : List Int) (k : Nat) (v : Int) : List Int := padL (v % LB ^ k).toNat k ++ xs.drop k

theorem lbpos (k : Nat) : 0 < LB ^ k := Int.pow_pos (by decide)

theorem pad_mod (v : Int) (k : Nat) : valL (padL (v % LB ^ k).toNat k) = v % LB ^ k := by
  have h0 := Int.emod_nonneg v (Int.ne_of_gt (lbpos k))
  have h1 := Int.emod_lt_of_pos v (lbpos k)
  rw [padL_val _ _ (by omega)]; omega

theorem put_len {xs : List Int} {k : Nat} (v : Int) (h : k ≤ xs.length) : (put xs k v).length = xs.length := by
  unfold put; rw [List.length_append, padL_len, List.length_drop]; omega

theorem put_lim {xs : List Int} (h : Lim xs) (k : Nat) (v : Int) : Lim (put xs k v) := (padL_lim _ _).append fun x hx => h x (List.mem_of_mem_drop hx)

theorem put_take {xs : List Int} {k : Nat} (v : Int) : (put xs k v).take k = padL (v % LB ^ k).toNat k := by
  unfold put; rw [List.take_append_of_le_length (by rw [padL_len]; omega), List.take_of_length_le (by rw [padL_len]; omega)]

theorem put_drop {xs : List Int} {k : Nat} (v : Int) : (put xs k v).drop k = xs.drop k := by
  unfold put
  rw [List.drop_append, padL_len, List.drop_eq_nil_of_le (by rw [padL_len]; omega), Nat.sub_self]; rfl

theorem put_put {xs : List Int} {k : Nat} (v u : Int) : put (put xs k v) k (valL ((put xs k v).take k) + u) = put xs k (v + u) := by
  rw [put_take, pad_mod]
  have : (v % LB ^ k + u) % LB ^ k = (v + u) % LB ^ k := by rw [Int.emod_add_emod]
  rw [put, this, put_drop, put]

theorem put_of {xs xs0 : List Int} {k : Nat} {v b : Int} (h : Lim xs) (hl : k ≤ xs.length) (hd : xs.drop k = xs0.drop k) (hv : valL (xs.take k) = v + LB ^ k * b) : xs = put xs0 k v := by
  have hlim : Lim (xs.take k) := fun x hx => h x (List.mem_of_mem_take hx)
  have hlen : (xs.take k).length = k := by rw [List.length_take]; omega
  have h0 := valL_nonneg hlim
  have h1 := valL_lt hlim
  rw [hlen] at h1
  have e : v % LB ^ k = valL (xs.take k) := by
    rw [show v = valL (xs.take k) + LB ^ k * (-b) by rw [Int.mul_neg, hv]; omega, Int.add_mul_emod_self_left, Int.emod_eq_of_lt h0 h1]
  have e2 := hlim.pad hlen (v := (v % LB ^ k).toNat) (by rw [e]; omega)
  unfold put
  rw [← e2, ← hd, List.take_append_drop]

def LosePhi (xs0 o : List Int) (q : Int) (i : Nat) (c b : Int) (xs : List Int) : Prop :=
  i ≤ o.length + 1 ∧ xs.length = xs0.length ∧ Lim xs ∧ xs.drop i = xs0.drop i ∧ (0 ≤ c ∧ c < LB) ∧ (i = o.length + 1 → c = 0) ∧ (0 ≤ b ∧ b ≤ 1) ∧
    valL (xs.take i) + q * valL (o.take i) = valL (xs0.take i) + LB ^ i * (c + b)

theorem lose_start {xs o : List Int} {q : Int} (h : Lim xs) : LosePhi xs o q 0 0 0 xs :=
  ⟨by omega, rfl, h, rfl, ⟨by decide, by decide⟩, fun _ => rfl, ⟨by decide, by decide⟩, by simp [valL]⟩

theorem drop_getD {xs xs0 : List Int} {i : Nat} (h : xs.drop i = xs0.drop i) : xs.getD i 0 = xs0.getD i 0 := by
  have e : ∀ l : List Int, l.getD i 0 = (l.drop i).getD 0 0 := fun l => by simp [List.getD_eq_getElem?_getD]
  rw [e, e, h]

theorem lose_n {o : List Int} {q c : Int} (i : Nat) (ho : Lim o) (hq : 0 ≤ q ∧ q < LB) (hc : 0 ≤ c ∧ c < LB) : 0 ≤ c + q * o.getD i 0 ∧ c + q * o.getD i 0 < LB * LB ∧ 0 ≤ q * o.getD i 0 ∧ q * o.getD i 0 ≤ LB * LB := by
  have hb := mul_bound hq (ho.getD i) (a := 0) (c := c) ⟨by decide, by decide⟩ hc
  omega

theorem set_take_gt {xs : List Int} {i : Nat} {v : Int} : (xs.set i v).take i = xs.take i := by
  rw [List.take_set, List.set_eq_of_length_le (by rw [List.length_take]; omega)]

theorem set_getD {xs : List Int} {i : Nat} {v : Int} (h : i < xs.length) : (xs.set i v).getD i 0 = v := by
  simp [List.getD_eq_getElem?_getD, h]

theorem lose_round {xs0 o xs : List Int} {q c b n v b2 : Int} {i : Nat} (ho : Lim o) (hq : 0 ≤ q ∧ q < LB) (hlen : o.length + 1 ≤ xs0.length) (h : LosePhi xs0 o q i c b xs) (hi : i < o.length + 1) (hn : n = c + q * o.getD i 0)
    (hv : 0 ≤ v ∧ v < LB) (hb2 : 0 ≤ b2 ∧ b2 ≤ 1) (he : v - LB * b2 = xs.getD i 0 - n % LB - b) : LosePhi xs0 o q (i + 1) (n / LB) b2 (xs.set i v) := by
  obtain ⟨g1, g2, g3, g4, g5, g6, g7, g8⟩ := h
  obtain ⟨n0, n1, n2, n3⟩ := lose_n i ho hq g5
  rw [← hn] at n0 n1
  have hm : n % LB + LB * (n / LB) = n := Int.emod_add_mul_ediv n LB
  refine ⟨by omega, by rw [List.length_set, g2], set_lim g3 hv.1 hv.2, ?_, ⟨Int.ediv_nonneg n0 (by decide), Int.ediv_lt_of_lt_mul (by decide) n1⟩, fun h => ?_, hb2, ?_⟩
  · rw [set_drop_gt (by omega), ← List.drop_drop, g4, List.drop_drop]
  · have hz : o.getD i 0 = 0 := by rw [List.getD_eq_getElem?_getD, List.getElem?_eq_none (by omega)]; rfl
    rw [hn, hz, Int.mul_zero, Int.add_zero]
    exact Int.ediv_eq_zero_of_lt g5.1 g5.2
  · rw [take_val, take_val, take_val, set_take_gt, set_getD (by omega), ← drop_getD g4, Int.mul_add, Int.pow_succ]
    have e1 : q * (LB ^ i * o.getD i 0) = LB ^ i * (q * o.getD i 0) := by rw [← Int.mul_assoc, Int.mul_comm q, Int.mul_assoc]
    have e2 : LB ^ i * v + LB ^ i * (q * o.getD i 0) + LB ^ i * (c + b) = LB ^ i * (v + q * o.getD i 0 + (c + b)) := by simp only [Int.mul_add]
    have e3 : LB ^ i * LB * (n / LB + b2) + LB ^ i * xs.getD i 0 = LB ^ i * (LB * (n / LB + b2) + xs.getD i 0) := by simp only [Int.mul_add, Int.mul_assoc]
    have e4 : v + q * o.getD i 0 + (c + b) = LB * (n / LB + b2) + xs.getD i 0 := by rw [Int.mul_add]; omega
    rw [e4] at e2
    rw [e1]
    omega

theorem lose_end {xs0 o xs : List Int} {q c b : Int} {i : Nat} (hlen : o.length + 1 ≤ xs0.length) (h : LosePhi xs0 o q i c b xs) (hi : ¬ i < o.length + 1) :
    xs = put xs0 (o.length + 1) (valL (xs0.take (o.length + 1)) - q * valL o) ∧ decide (0 < b) = decide (valL (xs0.take (o.length + 1)) < q * valL o) := by
  obtain ⟨g1, g2, g3, g4, g5, g6, g7, g8⟩ := h
  have : i = o.length + 1 := by omega
  subst this
  rw [g6 rfl, Int.zero_add, List.take_of_length_le (l := o) (by omega)] at g8
  refine ⟨put_of (b := b) g3 (by omega) g4 (by omega), ?_⟩
  have hlim : Lim (xs.take (o.length + 1)) := fun x hx => g3 x (List.mem_of_mem_take hx)
  have h0 := valL_nonneg hlim
  have h1 := valL_lt hlim
  rw [show (xs.take (o.length + 1)).length = o.length + 1 by rw [List.length_take]; omega] at h1
  congr 1
  by_cases hb : b = 0
  · subst hb; simp only [Int.mul_zero] at g8
    exact propext ⟨fun h => by omega, fun h => by omega⟩
  · have : b = 1 := by omega
    subst this; simp only [Int.mul_one] at g8
    exact propext ⟨fun h => by omega, fun h => by omega⟩

def GainPhi (xs0 o : List Int) (i : Nat) (c : Int) (xs : List Int) : Prop :=
  i ≤ o.length + 1 ∧ xs.length = xs0.length ∧ Lim xs ∧ xs.drop i = xs0.drop i ∧ (0 ≤ c ∧ c ≤ 1) ∧ valL (xs.take i) + LB ^ i * c = valL (xs0.take i) + valL (o.take i)

theorem gain_start {xs o : List Int} (h : Lim xs) : GainPhi xs o 0 0 xs := ⟨by omega, rfl, h, rfl, ⟨by decide, by decide⟩, by simp [valL]⟩

theorem gain_round {xs0 o xs : List Int} {c n : Int} {i : Nat} (ho : Lim o) (hlen : o.length + 1 ≤ xs0.length) (h : GainPhi xs0 o i c xs) (hi : i < o.length + 1) (hn : n = xs.getD i 0 + c + o.getD i 0) :
    GainPhi xs0 o (i + 1) (IntKind.u32.wrap (n.tdiv 1000000000)) (xs.set i (IntKind.u32.wrap (n.tmod 1000000000))) := by
  obtain ⟨g1, g2, g3, g4, g5, g6⟩ := h
  have hx := g3.getD i
  have ho := ho.getD i
  have hB : LB = 1000000000 := rfl
  have n0 : 0 ≤ n := by omega
  have hm : n % LB + LB * (n / LB) = n := Int.emod_add_mul_ediv n LB
  have hr : 0 ≤ n % LB ∧ n % LB < LB := ⟨Int.emod_nonneg _ (by decide), Int.emod_lt_of_pos _ (by decide)⟩
  have hq0 : 0 ≤ n / LB := Int.ediv_nonneg n0 (by decide)
  have hq1 : n / LB ≤ 1 := by rw [hB] at hx ho ⊢; omega
  rw [(tdiv_nn n0).1, (tdiv_nn n0).2, w32 hr.1 (by omega), w32 (x := n / LB) (by omega) (by omega)]
  refine ⟨by omega, by rw [List.length_set, g2], set_lim g3 hr.1 hr.2, ?_, ⟨hq0, hq1⟩, ?_⟩
  · rw [set_drop_gt (by omega), ← List.drop_drop, g4, List.drop_drop]
  · rw [take_val, take_val, take_val, set_take_gt, set_getD (by omega), ← drop_getD g4, Int.pow_succ]
    have e2 : LB ^ i * (n % LB) + LB ^ i * LB * (n / LB) = LB ^ i * n := by rw [Int.mul_assoc, ← Int.mul_add, hm]
    have e3 : LB ^ i * n = LB ^ i * xs.getD i 0 + LB ^ i * c + LB ^ i * o.getD i 0 := by rw [hn, Int.mul_add, Int.mul_add]
    omega

theorem gain_end {xs0 o xs : List Int} {c : Int} {i : Nat} (hlen : o.length + 1 ≤ xs0.length) (h : GainPhi xs0 o i c xs) (hi : ¬ i < o.length + 1) :
    xs = put xs0 (o.length + 1) (valL (xs0.take (o.length + 1)) + valL o) := by
  obtain ⟨g1, g2, g3, g4, g5, g6⟩ := h
  have : i = o.length + 1 := by omega
  subst this
  rw [List.take_of_length_le (l := o) (by omega)] at g6
  exact put_of (b := -c) g3 (by omega) g4 (by rw [Int.mul_neg]; omega)

end Go.Cm
end

section
/- Long division: how one digit of the quotient is guessed. No program is in sight here. -/
namespace Go.Cm
open Go.Proofs

/-- What is known of a guess: X, V, the first limbs of both. -/
structure Guess (X V P top t2 D1 D2 : Int) : Prop where
  hP : 0 < P
  hX0 : (top * LB + t2) * P ≤ X
  hX1 : X < (top * LB + t2) * P + P
  ht : 0 ≤ t2 ∧ t2 < LB
  htop : 0 ≤ top
  hV0 : (D1 * LB + D2) * P ≤ V
  hV1 : V < (D1 * LB + D2) * P + P
  hD1 : 1 ≤ D1
  hD2 : 0 ≤ D2 ∧ D2 < LB
  hXV : X < V * LB

namespace Guess
variable {X V P top t2 D1 D2 : Int} (g : Guess X V P top t2 D1 D2)
include g

theorem vpos : 0 < V := by
  have h1 : 0 < D1 * LB + D2 := by
    have := Int.mul_le_mul_of_nonneg_right g.hD1 (show (0 : Int) ≤ LB by decide)
    have := g.hD2.1
    have : (0 : Int) < LB := by decide
    omega
  have := Int.mul_pos h1 g.hP
  have := g.hV0
  omega

theorem xpos : 0 ≤ X := by
  have h1 : 0 ≤ top * LB + t2 := by
    have := Int.mul_nonneg g.htop (show (0 : Int) ≤ LB by decide)
    have := g.ht.1
    omega
  have := Int.mul_nonneg h1 (Int.le_of_lt g.hP)
  have := g.hX0
  omega

theorem qnn : 0 ≤ X / V := Int.ediv_nonneg g.xpos (Int.le_of_lt g.vpos)
theorem qlt : X / V < LB := Int.ediv_lt_of_lt_mul g.vpos (by rw [Int.mul_comm]; exact g.hXV)
theorem qle : X / V * V ≤ X := Int.ediv_mul_le _ (Int.ne_of_gt g.vpos)

/-- Where the guess is at least the digit. -/
theorem mulV {q : Int} (h0 : 0 ≤ q) (h : q * V ≤ X) {t : Int} (ht : t * P ≤ q * ((D1 * LB + D2) * P)) : t ≤ top * LB + t2 := by
  have h1 := Int.mul_le_mul_of_nonneg_left g.hV0 h0
  have h2 := g.hX1
  by_cases hc : t ≤ top * LB + t2
  · exact hc
  · have h3 : (top * LB + t2 + 1) * P ≤ t * P := Int.mul_le_mul_of_nonneg_right (by omega) (Int.le_of_lt g.hP)
    rw [Int.add_mul (top * LB + t2) 1 P, Int.one_mul] at h3
    omega

theorem first {q : Int} (h0 : 0 ≤ q) (h : q * V ≤ X) : q * D1 ≤ top := by
  have h1 := g.mulV h0 h (t := q * (D1 * LB + D2)) (by rw [Int.mul_assoc]; omega)
  rw [Int.mul_add, ← Int.mul_assoc] at h1
  have h2 := Int.mul_nonneg h0 g.hD2.1
  have h3 := g.ht.2
  by_cases hc : q * D1 ≤ top
  · exact hc
  · have h4 : (top + 1) * LB ≤ q * D1 * LB := Int.mul_le_mul_of_nonneg_right (by omega) (by decide)
    rw [Int.add_mul, Int.one_mul] at h4
    omega

theorem start : X / V ≤ min (top / D1) 999999999 := by
  have h1 := g.first g.qnn g.qle
  have h2 : X / V ≤ top / D1 := (Int.le_ediv_iff_mul_le (by have := g.hD1; omega)).2 h1
  have h3 := g.qlt
  have hB : LB = 1000000000 := rfl
  omega

theorem step {q : Int} (hq : X / V ≤ q) (h : q * D2 > (top - q * D1) * LB + t2) : X / V ≤ q - 1 := by
  by_cases hc : X / V = q
  · exfalso
    subst hc
    have h1 := g.mulV g.qnn g.qle (t := X / V * (D1 * LB + D2)) (by rw [Int.mul_assoc]; omega)
    rw [Int.mul_add, ← Int.mul_assoc] at h1
    rw [Int.sub_mul] at h
    omega
  · omega

theorem stop {q : Int} (hq0 : 0 ≤ q) (hq1 : q < LB) (h : ¬ (q * D2 > (top - q * D1) * LB + t2) ∨ ¬ (top - q * D1 < LB)) : (q - 1) * V ≤ X := by
  have hv := g.hV1
  have hx := g.hX0
  have hP := Int.le_of_lt g.hP
  rw [Int.sub_mul, Int.one_mul]
  have h1 : q * V ≤ q * ((D1 * LB + D2) * P + P) := Int.mul_le_mul_of_nonneg_left (Int.le_of_lt hv) hq0
  rw [Int.mul_add, ← Int.mul_assoc] at h1
  rcases h with h | h
  · have h2 : q * (D1 * LB + D2) ≤ top * LB + t2 := by
      rw [Int.sub_mul] at h
      rw [Int.mul_add, ← Int.mul_assoc]
      omega
    have h3 := Int.mul_le_mul_of_nonneg_right h2 hP
    have h4 : q * P ≤ LB * P := Int.mul_le_mul_of_nonneg_right (Int.le_of_lt hq1) hP
    have h5 : LB * P ≤ (D1 * LB + D2) * P := Int.mul_le_mul_of_nonneg_right (by
      have := Int.mul_le_mul_of_nonneg_right g.hD1 (show (0 : Int) ≤ LB by decide)
      have := g.hD2.1
      omega) hP
    have h6 := g.hV0
    omega
  · have h2 : (q * (D1 * LB + D2) + q) * P ≤ top * LB * P := Int.mul_le_mul_of_nonneg_right (by
      have h3 : q * (D2 + 1) ≤ q * LB := Int.mul_le_mul_of_nonneg_left (by have := g.hD2.2; omega) hq0
      have h4 : (q * D1 + q) * LB ≤ top * LB := Int.mul_le_mul_of_nonneg_right (by omega) (by decide)
      rw [Int.mul_add, Int.mul_one] at h3
      rw [Int.add_mul] at h4
      rw [Int.mul_add, ← Int.mul_assoc]
      omega) hP
    rw [Int.add_mul] at h2
    have h3 : top * LB * P ≤ (top * LB + t2) * P := Int.mul_le_mul_of_nonneg_right (by have := g.ht.1; omega) hP
    have := g.vpos
    omega

/-- The guess is the digit, or one too many. -/
theorem last {q : Int} (hq : X / V ≤ q) (h : (q - 1) * V ≤ X) : (X < q * V → q - 1 = X / V) ∧ (¬ X < q * V → q = X / V) := by
  have hv := g.vpos
  have h1 : q - 1 ≤ X / V := (Int.le_ediv_iff_mul_le hv).2 h
  refine ⟨fun hl => ?_, fun hl => ?_⟩
  · have : X / V < q := Int.ediv_lt_of_lt_mul hv hl
    omega
  · have : q ≤ X / V := (Int.le_ediv_iff_mul_le hv).2 (by omega)
    omega

end Guess
end Go.Cm
end

section
/- Long division: the rounds as the code writes them. No program is in sight here. -/
namespace Go.Cm
open Go.Proofs

theorem lose_w {o : List Int} {q c : Int} (i : Nat) (ho : Lim o) (hq : Dig0 q) (hc : 0 ≤ c ∧ c < LB) :
    IntKind.u64.wrap (c + IntKind.u64.wrap (q * IntKind.u64.wrap (nth (Ty.int IntKind.u32) o (i : Int)))) = c + q * o.getD i 0 := by
  obtain ⟨n0, n1, n2, n3⟩ := lose_n i ho hq hc
  have hx := ho.getD i
  have h4 : LB * LB = 1000000000000000000 := rfl
  have hB : LB = 1000000000 := rfl
  rw [nth32, w64 (x := o.getD i 0) hx.1 (by omega), w64 n2 (by omega), w64 n0 (by omega)]

theorem lose_none {o : List Int} {q c : Int} {i : Nat} (h : ¬ (i : Int) < (o.length : Int)) : c = c + q * o.getD i 0 := by
  rw [List.getD_eq_getElem?_getD, List.getElem?_eq_none (by omega)]; simp

theorem lose_r {ys : List Int} {n b : Int} {i : Nat} (hy : Lim ys) (hn : 0 ≤ n ∧ n < LB * LB) (hb : 0 ≤ b ∧ b ≤ 1) :
    IntKind.i64.wrap (IntKind.i64.wrap (IntKind.i64.wrap (nth (Ty.int IntKind.u32) ys (((i : Int).toNat : Nat) : Int)) - IntKind.i64.wrap (n.tmod 1000000000)) - b) = ys.getD i 0 - n % LB - b ∧ IntKind.u64.wrap (n.tdiv 1000000000) = n / LB ∧
      -LB ≤ ys.getD i 0 - n % LB - b ∧ ys.getD i 0 - n % LB - b < LB := by
  have hx := hy.getD i
  have hB : LB = 1000000000 := rfl
  have hr : 0 ≤ n % LB ∧ n % LB < LB := ⟨Int.emod_nonneg _ (by decide), Int.emod_lt_of_pos _ (by decide)⟩
  rw [Int.toNat_natCast, nth32, (tdiv_nn hn.1).2, wi (x := ys.getD i 0) (by omega) (by omega), wi (x := n % LB) (by omega) (by omega), wi (x := ys.getD i 0 - n % LB) (by omega) (by omega), wi (by omega) (by omega)]
  exact ⟨rfl, (two_limbs hn.1 hn.2).2.2, by omega, by omega⟩

theorem lose_cut {ys : List Int} {n b : Int} {i : Nat} (hy : Lim ys) (hn : 0 ≤ n ∧ n < LB * LB) (hb : 0 ≤ b ∧ b ≤ 1) {r : Int}
    (hr : r = IntKind.i64.wrap (IntKind.i64.wrap (IntKind.i64.wrap (nth (Ty.int IntKind.u32) ys (((i : Int).toNat : Nat) : Int)) - IntKind.i64.wrap (n.tmod 1000000000)) - b)) :
    (r < 0 → IntKind.u64.wrap (n.tdiv 1000000000) = n / LB ∧ 0 ≤ IntKind.i64.wrap (r + 1000000000) ∧ IntKind.i64.wrap (r + 1000000000) < LB ∧ (0 : Int) ≤ 1 ∧ (1 : Int) ≤ 1 ∧ IntKind.i64.wrap (r + 1000000000) - LB * 1 = ys.getD i 0 - n % LB - b) ∧
    (¬ r < 0 → IntKind.u64.wrap (n.tdiv 1000000000) = n / LB ∧ 0 ≤ r ∧ r < LB ∧ (0 : Int) ≤ 0 ∧ (0 : Int) ≤ 1 ∧ r - LB * 0 = ys.getD i 0 - n % LB - b) := by
  obtain ⟨h1, h2, h3, h4⟩ := lose_r (i := i) hy hn hb
  rw [h1] at hr
  have hB : LB = 1000000000 := rfl
  refine ⟨fun h => ?_, fun h => ⟨h2, by omega, by omega, by omega, by omega, by omega⟩⟩
  rw [wi (by omega) (by omega)]
  exact ⟨h2, by omega, by omega, by omega, by omega, by omega⟩

theorem lose_next {xs0 o xs : List Int} {q c b n v b2 : Int} {i : Nat} (ho : Lim o) (hq : Dig0 q) (hlen : o.length + 1 ≤ xs0.length) (hc : o.length < CAP) (h : LosePhi xs0 o q i c b xs) (hi : (i : Int) < ((o.length + 1 : Nat) : Int)) (hn : n = c + q * o.getD i 0)
    (hv : (0 ≤ v ∧ v < LB) ∧ (0 ≤ b2 ∧ b2 ≤ 1) ∧ v - LB * b2 = xs.getD i 0 - n % LB - b) :
    ∃ a : Nat, IntKind.i64.wrap ((i : Int) + 1) = (a : Int) ∧ LosePhi xs0 o q a (n / LB) b2 (xs.set (i : Int).toNat (IntKind.u32.wrap v)) ∧ o.length + 1 - a < o.length + 1 - i := by
  have hC : o.length < 1000000000000 := hc
  have hB : LB = 1000000000 := rfl
  refine ⟨i + 1, by rw [wi (by omega) (by omega)]; simp, ?_, by omega⟩
  rw [Int.toNat_natCast, w32 hv.1.1 (by omega)]
  exact lose_round ho hq hlen h (by omega) hn hv.1 hv.2.1 hv.2.2

theorem gain_next {xs0 o xs : List Int} {c n : Int} {i : Nat} (ho : Lim o) (hlen : o.length + 1 ≤ xs0.length) (hc : o.length < CAP) (h : GainPhi xs0 o i c xs) (hi : (i : Int) < ((o.length + 1 : Nat) : Int)) (hn : n = xs.getD i 0 + c + o.getD i 0) :
    ∃ a : Nat, IntKind.i64.wrap ((i : Int) + 1) = (a : Int) ∧ GainPhi xs0 o a (IntKind.u32.wrap (n.tdiv 1000000000)) (xs.set (i : Int).toNat (n.tmod 1000000000)) ∧ o.length + 1 - a < o.length + 1 - i := by
  have hC : o.length < 1000000000000 := hc
  have hB : LB = 1000000000 := rfl
  have hx := h.2.2.1.getD i
  have ho' := ho.getD i
  have hcc := h.2.2.2.2.1
  have e : n.tmod 1000000000 = IntKind.u32.wrap (n.tmod 1000000000) := by
    rw [(tdiv_nn (by omega)).2]
    have hr : 0 ≤ n % LB ∧ n % LB < LB := ⟨Int.emod_nonneg _ (by decide), Int.emod_lt_of_pos _ (by decide)⟩
    rw [w32 hr.1 (by omega)]
  rw [e]
  refine ⟨i + 1, by rw [wi (by omega) (by omega)]; simp, ?_, by omega⟩
  rw [Int.toNat_natCast]
  exact gain_round ho hlen h (by omega) hn

theorem gain_w {ys o : List Int} {c : Int} (i : Nat) (hy : Lim ys) (ho : Lim o) (hc : 0 ≤ c ∧ c ≤ 1) :
    IntKind.u32.wrap (IntKind.u32.wrap (nth (Ty.int IntKind.u32) ys (((i : Int).toNat : Nat) : Int) + c) + nth (Ty.int IntKind.u32) o (i : Int)) = ys.getD i 0 + c + o.getD i 0 ∧
    (¬ (i : Int) < (o.length : Int) → IntKind.u32.wrap (nth (Ty.int IntKind.u32) ys (((i : Int).toNat : Nat) : Int) + c) = ys.getD i 0 + c + o.getD i 0) := by
  have hx := hy.getD i
  have hz := ho.getD i
  have hB : LB = 1000000000 := rfl
  rw [Int.toNat_natCast, nth32, nth32, w32 (x := ys.getD i 0 + c) (by omega) (by omega)]
  refine ⟨w32 (by omega) (by omega), fun h => ?_⟩
  rw [List.getD_eq_getElem?_getD (l := o), List.getElem?_eq_none (by omega)]; simp

end Go.Cm
end

section
/- Long division: one digit after the other. No program is in sight here. -/
namespace Go.Cm
open Go.Proofs

theorem getD_drop (l : List Int) (j i : Nat) : (l.drop j).getD i 0 = l.getD (j + i) 0 := by
  simp [List.getD_eq_getElem?_getD]

theorem Lim.drop {l : List Int} (h : Lim l) (j : Nat) : Lim (l.drop j) := fun x hx => h x (List.mem_of_mem_drop hx)
theorem Lim.take {l : List Int} (h : Lim l) (j : Nat) : Lim (l.take j) := fun x hx => h x (List.mem_of_mem_take hx)

theorem take_lt {l : List Int} (h : Lim l) (k : Nat) : 0 ≤ valL (l.take k) ∧ valL (l.take k) < LB ^ k := by
  refine ⟨valL_nonneg (h.take k), Int.lt_of_lt_of_le (valL_lt (h.take k)) (pow_mono ?_)⟩
  rw [List.length_take]; omega

theorem split_at (l : List Int) (k : Nat) : valL l = valL (l.take k) + LB ^ (l.take k).length * valL (l.drop k) := by
  have h := valL_append (l.take k) (l.drop k)
  rw [List.take_append_drop] at h; exact h

theorem split_le {l : List Int} {k : Nat} (hk : k ≤ l.length) : valL l = valL (l.take k) + LB ^ k * valL (l.drop k) := by
  have h := split_at l k
  rw [show (l.take k).length = k by rw [List.length_take]; omega] at h; exact h

/-- The first limbs of a number. -/
theorem top_two {l : List Int} (p : Nat) : valL (l.take (p + 2)) = (l.getD (p + 1) 0 * LB + l.getD p 0) * LB ^ p + valL (l.take p) := by
  rw [take_val, take_val, Int.pow_succ]
  have e : LB ^ p * LB * l.getD (p + 1) 0 = l.getD (p + 1) 0 * LB * LB ^ p := by rw [Int.mul_comm (LB ^ p) LB, Int.mul_comm (LB * LB ^ p), ← Int.mul_assoc]
  rw [e, Int.add_mul, Int.mul_comm (l.getD p 0)]
  omega

theorem top_three {l : List Int} (p : Nat) : valL (l.take (p + 3)) = ((l.getD (p + 2) 0 * LB + l.getD (p + 1) 0) * LB + l.getD p 0) * LB ^ p + valL (l.take p) := by
  rw [take_val, top_two, Int.pow_succ, Int.pow_succ]
  have e : LB ^ p * LB * LB * l.getD (p + 2) 0 = l.getD (p + 2) 0 * LB * LB * LB ^ p := by
    rw [Int.mul_assoc (LB ^ p), Int.mul_comm (LB ^ p), Int.mul_comm (LB * LB * LB ^ p), ← Int.mul_assoc, ← Int.mul_assoc]
  rw [e]
  simp only [Int.add_mul]
  omega

theorem high_zero {T : List Int} {k : Nat} (hT : Lim T) (hk : k ≤ T.length) (h : valL T < LB ^ k) : valL (T.drop k) = 0 ∧ valL T = valL (T.take k) := by
  have h1 := split_le hk
  have h0 := valL_nonneg (hT.drop k)
  have h2 := (take_lt hT k).1
  have h3 : valL (T.drop k) = 0 := by
    by_cases hz : valL (T.drop k) = 0
    · exact hz
    · have : LB ^ k * 1 ≤ LB ^ k * valL (T.drop k) := Int.mul_le_mul_of_nonneg_left (by omega) (Int.le_of_lt (lbpos k))
      omega
  rw [h3] at h1
  exact ⟨h3, by omega⟩

/-- The window of a digit. -/
theorem window {T D : List Int} {j p : Nat} (hT : Lim T) (hD : Lim D) (hDl : D.length = p + 2) (hTl : j + (p + 3) ≤ T.length) (hlt : valL T < valL D * LB ^ (j + 1)) :
    valL T = valL (T.take j) + LB ^ j * valL ((T.drop j).take (p + 3)) ∧ valL ((T.drop j).drop (p + 3)) = 0 := by
  have hV := valL_lt hD
  rw [hDl] at hV
  have h1 : valL T < LB ^ (j + (p + 3)) := by
    have h2 : valL D * LB ^ (j + 1) ≤ LB ^ (p + 2) * LB ^ (j + 1) := Int.mul_le_mul_of_nonneg_right (Int.le_of_lt hV) (Int.le_of_lt (lbpos _))
    rw [← Int.pow_add, show p + 2 + (j + 1) = j + (p + 3) by omega] at h2
    omega
  obtain ⟨hz, -⟩ := high_zero hT hTl h1
  have h3 : valL ((T.drop j).drop (p + 3)) = 0 := by rw [List.drop_drop]; exact hz
  refine ⟨?_, h3⟩
  have h4 := split_le (l := T) (k := j) (by omega)
  have h5 := split_le (l := T.drop j) (k := p + 3) (by rw [List.length_drop]; omega)
  rw [h3] at h5
  rw [h4, h5]; simp

theorem mk_guess {T D : List Int} {j p : Nat} (hT : Lim T) (hD : Lim D) (hDl : D.length = p + 2) (hVp : LB ^ (p + 1) ≤ valL D) (hTl : j + (p + 3) ≤ T.length) (hlt : valL T < valL D * LB ^ (j + 1)) :
    Guess (valL ((T.drop j).take (p + 3))) (valL D) (LB ^ p) (T.getD (j + (p + 2)) 0 * LB + T.getD (j + (p + 1)) 0) (T.getD (j + p) 0) (D.getD (p + 1) 0) (D.getD p 0) := by
  have hX := top_three (l := T.drop j) p
  rw [getD_drop, getD_drop, getD_drop] at hX
  have hx := take_lt (hT.drop j) p
  have hV := top_two (l := D) p
  rw [List.take_of_length_le (by omega)] at hV
  have hv := take_lt hD p
  have hT0 := hT.getD (j + (p + 2))
  have hT1 := hT.getD (j + (p + 1))
  obtain ⟨hw, -⟩ := window hT hD hDl hTl hlt
  have h0 := (take_lt hT j).1
  refine ⟨lbpos p, by omega, by omega, hT.getD _, ?_, by omega, by omega, ?_, hD.getD _, ?_⟩
  · have := Int.mul_nonneg hT0.1 (show (0 : Int) ≤ LB by decide); omega
  · by_cases h : 1 ≤ D.getD (p + 1) 0
    · exact h
    · exfalso
      have hz : D.getD (p + 1) 0 = 0 := by have := (hD.getD (p + 1)).1; omega
      rw [hz, Int.zero_mul, Int.zero_add] at hV
      have h1 : (D.getD p 0 + 1) * LB ^ p ≤ LB * LB ^ p := Int.mul_le_mul_of_nonneg_right (by have := (hD.getD p).2; omega) (Int.le_of_lt (lbpos p))
      rw [Int.add_mul, Int.one_mul] at h1
      rw [Int.pow_succ, Int.mul_comm] at hVp
      omega
  · have h1 : LB ^ j * valL ((T.drop j).take (p + 3)) < LB ^ j * (valL D * LB) := by
      have e : LB ^ j * (valL D * LB) = valL D * LB ^ (j + 1) := by rw [Int.pow_succ, Int.mul_comm (LB ^ j), Int.mul_assoc, Int.mul_comm LB]
      rw [e]; omega
    exact Int.lt_of_mul_lt_mul_left h1 (Int.le_of_lt (lbpos j))

/-- Between two digits. -/
def IterPhi (M V : Int) (lm n : Nat) (k : Nat) (T Q : List Int) : Prop :=
  T.length = lm + 1 ∧ Lim T ∧ Q.length = lm + 1 - n ∧ Lim Q ∧ k ≤ lm + 1 - n ∧ valL T + V * (LB ^ k * valL (Q.drop k)) = M ∧ valL T < V * LB ^ k

theorem iter_next {M : Int} {D T Q : List Int} {lm j p : Nat} {q : Int} (hD : Lim D) (hDl : D.length = p + 2) (hVp : LB ^ (p + 1) ≤ valL D) (hlm : p + 2 ≤ lm) (h : IterPhi M (valL D) lm (p + 2) (j + 1) T Q)
    (hq : q = valL ((T.drop j).take (p + 3)) / valL D) :
    IterPhi M (valL D) lm (p + 2) j (T.take j ++ put (T.drop j) (p + 3) (valL ((T.drop j).take (p + 3)) - q * valL D)) (Q.set j q) := by
  obtain ⟨h1, h2, h3, h4, h5, h6, h7⟩ := h
  have hTl : j + (p + 3) ≤ T.length := by omega
  have g := mk_guess h2 hD hDl hVp hTl h7
  obtain ⟨hw, hz⟩ := window h2 hD hDl hTl h7
  have hq0 := g.qnn
  have hq1 := g.qlt
  have hv := g.vpos
  have hx := g.xpos
  rw [← hq] at hq0 hq1
  have hr : valL ((T.drop j).take (p + 3)) - q * valL D = valL ((T.drop j).take (p + 3)) % valL D := by
    rw [hq, Int.emod_def, Int.mul_comm]
  have hr0 := Int.emod_nonneg (valL ((T.drop j).take (p + 3))) (Int.ne_of_gt hv)
  have hr1 := Int.emod_lt_of_pos (valL ((T.drop j).take (p + 3))) hv
  have hVl := valL_lt hD
  rw [hDl] at hVl
  have hml : valL D ≤ LB ^ (p + 3) := Int.le_trans (Int.le_of_lt hVl) (pow_mono (by omega))
  have hdl : p + 3 ≤ (T.drop j).length := by rw [List.length_drop]; omega
  have hput : valL (put (T.drop j) (p + 3) (valL ((T.drop j).take (p + 3)) - q * valL D)) = valL ((T.drop j).take (p + 3)) - q * valL D := by
    unfold put
    rw [valL_append, pad_mod, hz, Int.mul_zero, Int.add_zero, Int.emod_eq_of_lt (by omega) (by omega)]
  have htl : (T.take j).length = j := by rw [List.length_take]; omega
  have hval : valL (T.take j ++ put (T.drop j) (p + 3) (valL ((T.drop j).take (p + 3)) - q * valL D)) = valL (T.take j) + LB ^ j * (valL ((T.drop j).take (p + 3)) - q * valL D) := by
    rw [valL_append, hput, htl]
  refine ⟨?_, (h2.take j).append (put_lim (h2.drop j) _ _), by rw [List.length_set, h3], set_lim h4 hq0 hq1, by omega, ?_, ?_⟩
  · rw [List.length_append, put_len _ hdl, htl, List.length_drop]; omega
  · rw [hval, set_drop (by omega), valL]
    rw [hw] at h6
    have e1 : valL D * (LB ^ j * (q + LB * valL (Q.drop (j + 1)))) = LB ^ j * (q * valL D) + valL D * (LB ^ (j + 1) * valL (Q.drop (j + 1))) := by
      have e2 : valL D * (LB ^ j * q) = LB ^ j * (q * valL D) := by rw [← Int.mul_assoc, Int.mul_comm (valL D), Int.mul_assoc, Int.mul_comm (valL D)]
      rw [Int.mul_add, Int.mul_add, e2, Int.pow_succ, Int.mul_assoc (LB ^ j) LB]
    rw [e1, Int.mul_sub]
    omega
  · rw [hval, hr]
    have h8 : LB ^ j * (valL ((T.drop j).take (p + 3)) % valL D + 1) ≤ LB ^ j * valL D := Int.mul_le_mul_of_nonneg_left (by omega) (Int.le_of_lt (lbpos j))
    rw [Int.mul_add, Int.mul_one] at h8
    have h9 := (take_lt h2 j).2
    rw [Int.mul_comm (valL D)]
    omega

theorem padL_take : ∀ (v k j : Nat), j ≤ k → (padL v k).take j = padL v j
  | _, _, 0, _ => by simp [padL]
  | _, 0, j + 1, h => by omega
  | v, k + 1, j + 1, h => by rw [padL, List.take_succ_cons, padL_take _ k j (by omega), padL]

/-- The quotient and the remainder of limbs, as they come. -/
def scaleOf (o : List Int) : Int := 1000000000 / (o.getD (o.length - 1) 0 + 1)
def divQ (m o : List Int) : List Int :=
  if valL m < valL o then [] else if o.length = 1 then padL (valL m / valL o).toNat m.length else padL (valL m / valL o).toNat (m.length + 1 - o.length)
def divR (m o : List Int) : List Int :=
  if valL m < valL o then m else if o.length = 1 then [valL m % valL o] else padL (valL m % valL o).toNat (limbs (valL m % valL o * scaleOf o).toNat).length

theorem last_getD {l : List Int} (h : l ≠ []) : l.getLastD 1 = l.getD (l.length - 1) 0 := by
  rw [List.getD_eq_getElem?_getD, ← List.getLast?_eq_getElem?, List.getLast?_eq_some_getLast h, List.getLastD_eq_getLast?, List.getLast?_eq_some_getLast h]; rfl

theorem scale_ok {o : List Int} (ho : Cano o) {p : Nat} (hp : o.length = p + 2) :
    (1 ≤ scaleOf o ∧ scaleOf o < LB) ∧ valL o * scaleOf o < LB ^ (p + 2) ∧ LB ^ (p + 1) ≤ valL o * scaleOf o ∧ 0 < valL o := by
  have hne : o ≠ [] := by rintro rfl; simp at hp
  have hl := ho.1.getD (p + 1)
  have h0 : o.getD (p + 1) 0 ≠ 0 := by
    have := ho.2; rw [last_getD hne, hp] at this; exact this
  have hB : LB = 1000000000 := rfl
  have hs : scaleOf o = 1000000000 / (o.getD (p + 1) 0 + 1) := by unfold scaleOf; rw [hp]; rfl
  have hs1 : 1 ≤ scaleOf o := by rw [hs]; exact (Int.le_ediv_iff_mul_le (by omega)).2 (by omega)
  have hs2 : scaleOf o * (o.getD (p + 1) 0 + 1) ≤ LB := by rw [hs]; exact Int.ediv_mul_le _ (by omega)
  have hge := valL_ge ho hne
  rw [hp] at hge
  have hpos := lbpos (p + 1)
  have hvp : 0 < valL o := by have : LB ^ (p + 2 - 1) = LB ^ (p + 1) := rfl; omega
  have hv : valL o < LB ^ (p + 1) * (o.getD (p + 1) 0 + 1) := by
    have h := split_le (l := o) (k := p + 1) (by omega)
    have h1 := take_val o (p + 1)
    rw [List.take_of_length_le (by omega)] at h1
    have h2 := (take_lt ho.1 (p + 1)).2
    rw [Int.mul_add, Int.mul_one]; omega
  refine ⟨⟨hs1, ?_⟩, ?_, ?_, hvp⟩
  · have h2 : scaleOf o * 2 ≤ scaleOf o * (o.getD (p + 1) 0 + 1) := Int.mul_le_mul_of_nonneg_left (by omega) (by omega)
    omega
  · have h1 : valL o * scaleOf o < LB ^ (p + 1) * (o.getD (p + 1) 0 + 1) * scaleOf o := Int.mul_lt_mul_of_pos_right hv (by omega)
    have h2 : LB ^ (p + 1) * (o.getD (p + 1) 0 + 1) * scaleOf o ≤ LB ^ (p + 1) * LB := by
      rw [Int.mul_assoc, Int.mul_comm (o.getD (p + 1) 0 + 1)]
      exact Int.mul_le_mul_of_nonneg_left hs2 (Int.le_of_lt hpos)
    have h3 : LB ^ (p + 2) = LB ^ (p + 1) * LB := Int.pow_succ LB (p + 1)
    omega
  · have h1 : valL o * 1 ≤ valL o * scaleOf o := Int.mul_le_mul_of_nonneg_left hs1 (by omega)
    have h2 : LB ^ (p + 2 - 1) = LB ^ (p + 1) := rfl
    omega

theorem two_or_more {o : List Int} (h0 : o ≠ []) (h1 : ¬ (o.length : Int) = 1) : ∃ p, o.length = p + 2 := by
  match o, h0 with
  | [], h => exact absurd rfl h
  | [x], _ => simp at h1
  | x :: y :: l, _ => exact ⟨l.length, rfl⟩

end Go.Cm
end

section
/- Long division as the code writes it. No program is in sight here. -/
namespace Go.Cm
open Go.Proofs

theorem win_len {T : List Int} {j n : Nat} (v : Int) (h : j + n ≤ T.length) : (List.take j T ++ put (List.drop j T) n v).length = T.length := by
  rw [List.length_append, put_len _ (by rw [List.length_drop]; omega), List.length_take, List.length_drop]; omega

/-- All that stands fast in a long division. -/
structure DivFix (m o D : List Int) (p : Nat) : Prop where
  hm : Cano m
  ho : Cano o
  hp : o.length = p + 2
  hle : valL o ≤ valL m
  hc : m.length + o.length + 1 < 1000000000000
  hD : D = padL (valL o * scaleOf o).toNat o.length
  hDl : D.length = p + 2
  hDl3 : D.length + 1 = p + 3
  hL : Lim D
  hV : valL D = valL o * scaleOf o
  hVp : LB ^ (p + 1) ≤ valL D
  hlm : p + 2 ≤ m.length
  hs : 1 ≤ scaleOf o ∧ scaleOf o < LB
  hvo : 0 < valL o
  en1 : IntKind.i64.wrap ((o.length : Int) - 1) = ((p + 1 : Nat) : Int)
  en2 : IntKind.i64.wrap ((o.length : Int) - 2) = ((p : Nat) : Int)

theorem DivFix.mk' {m o : List Int} {p : Nat} (hm : Cano m) (ho : Cano o) (hp : o.length = p + 2) (hle : valL o ≤ valL m) (hc : m.length + o.length + 1 < CAP) : DivFix m o (padL (valL o * scaleOf o).toNat o.length) p := by
  have hC : m.length + o.length + 1 < 1000000000000 := hc
  obtain ⟨h1, h2, h3, h4⟩ := scale_ok ho hp
  have hv0 : 0 ≤ valL o * scaleOf o := Int.mul_nonneg (by omega) (by omega)
  have hv : valL (padL (valL o * scaleOf o).toNat o.length) = valL o * scaleOf o := by
    rw [padL_val _ _ (by rw [hp]; omega)]; omega
  have hll := len_le ho hm hle
  exact ⟨hm, ho, hp, hle, hC, rfl, by rw [padL_len, hp], by rw [padL_len, hp], padL_lim _ _, hv, by rw [hv]; exact h3, by omega, h1, h4, by rw [wi (by omega) (by omega)]; omega, by rw [wi (by omega) (by omega)]; omega⟩

theorem scale_code {o : List Int} {p : Nat} (ho : Cano o) (hp : o.length = p + 2) (hc : o.length < 1000000000000) :
    (0 ≤ IntKind.i64.wrap ((o.length : Int) - 1) ∧ IntKind.i64.wrap ((o.length : Int) - 1) < (o.length : Int)) ∧
    IntKind.u64.wrap (IntKind.u64.wrap (nth (Ty.int IntKind.u32) o (IntKind.i64.wrap ((o.length : Int) - 1))) + 1) ≠ 0 ∧
    IntKind.u32.wrap (IntKind.u64.wrap (Int.tdiv 1000000000 (IntKind.u64.wrap (IntKind.u64.wrap (nth (Ty.int IntKind.u32) o (IntKind.i64.wrap ((o.length : Int) - 1))) + 1)))) = scaleOf o := by
  have e : IntKind.i64.wrap ((o.length : Int) - 1) = ((o.length - 1 : Nat) : Int) := by rw [wi (by omega) (by omega)]; omega
  have hx := ho.1.getD (o.length - 1)
  have hB : LB = 1000000000 := rfl
  obtain ⟨h1, -⟩ := scale_ok ho hp
  have hs : scaleOf o = 1000000000 / (o.getD (o.length - 1) 0 + 1) := rfl
  rw [e, nth32, w64 (x := o.getD (o.length - 1) 0) hx.1 (by omega), w64 (x := o.getD (o.length - 1) 0 + 1) (by omega) (by omega), Int.tdiv_eq_ediv_of_nonneg (by decide), ← hs, w64 (by omega) (by omega), w32 (by omega) (by omega)]
  exact ⟨⟨by omega, by omega⟩, by omega, rfl⟩

theorem top_code {a b : Int} (ha : 0 ≤ a ∧ a < LB) (hb : 0 ≤ b ∧ b < LB) :
    IntKind.u64.wrap (IntKind.u64.wrap (IntKind.u64.wrap a * 1000000000) + IntKind.u64.wrap b) = a * LB + b ∧ a * LB + b < LB * LB ∧ 0 ≤ a * LB + b := by
  have hB : LB = 1000000000 := rfl
  rw [hB] at ha hb ⊢
  rw [w64 ha.1 (by omega), w64 hb.1 (by omega), w64 (x := a * 1000000000) (by omega) (by omega), w64 (by omega) (by omega)]
  omega

theorem quo_code {top D1 : Int} (h0 : 0 ≤ top) (h1 : top < LB * LB) (hD : 1 ≤ D1) (hD2 : D1 < LB) : IntKind.u64.wrap (top.tdiv (IntKind.u64.wrap D1)) = top / D1 ∧ IntKind.u64.wrap D1 ≠ 0 := by
  have hB : LB = 1000000000 := rfl
  have h4 : LB * LB = 1000000000000000000 := rfl
  have h2 : top / D1 ≤ top := Int.ediv_le_self _ h0
  have h3 : 0 ≤ top / D1 := Int.ediv_nonneg h0 (by omega)
  rw [w64 (x := D1) (by omega) (by omega), Int.tdiv_eq_ediv_of_nonneg h0, w64 h3 (by omega)]
  exact ⟨rfl, by omega⟩

/-- A guess so far. -/
def QPhi (X V top D1 q : Int) : Prop := X / V ≤ q ∧ q < LB ∧ q * D1 ≤ top ∧ 0 ≤ q

theorem q_start {X V P top t2 D1 D2 gs : Int} (g : Guess X V P top t2 D1 D2) (h : gs = min (top / D1) 999999999) : QPhi X V top D1 gs := by
  have h1 := g.start
  have hB : LB = 1000000000 := rfl
  have hD := g.hD1
  refine ⟨by omega, by omega, ?_, ?_⟩
  · have h2 : gs * D1 ≤ top / D1 * D1 := Int.mul_le_mul_of_nonneg_right (by omega) (by omega)
    have h3 := Int.ediv_mul_le top (b := D1) (by omega)
    omega
  · have h2 : 0 ≤ top / D1 := Int.ediv_nonneg g.htop (by omega)
    omega

theorem q_code {X V P top t2 D1 D2 q : Int} (g : Guess X V P top t2 D1 D2) (ht : top < LB * LB) (hD1 : D1 < LB) (h : QPhi X V top D1 q) :
    IntKind.u64.wrap (top - IntKind.u64.wrap (q * IntKind.u64.wrap D1)) = top - q * D1 ∧ IntKind.u64.wrap (q * IntKind.u64.wrap D2) = q * D2 ∧
      (IntKind.u64.wrap (top - IntKind.u64.wrap (q * IntKind.u64.wrap D1)) < 1000000000 → IntKind.u64.wrap (IntKind.u64.wrap (IntKind.u64.wrap (top - IntKind.u64.wrap (q * IntKind.u64.wrap D1)) * 1000000000) + IntKind.u64.wrap t2) = (top - q * D1) * LB + t2) := by
  obtain ⟨h1, h2, h3, h4⟩ := h
  have hB : LB = 1000000000 := rfl
  have h5 : LB * LB = 1000000000000000000 := rfl
  have hD := g.hD1
  have hd2 := g.hD2
  have hq0 : 0 ≤ q * D1 := Int.mul_nonneg h4 (by omega)
  have hb := mul_bound (x := q) (y := D2) (a := 0) (c := 0) ⟨h4, h2⟩ hd2 ⟨by decide, by decide⟩ ⟨by decide, by decide⟩
  have ht2 := g.ht
  rw [w64 (x := D1) (by omega) (by omega), w64 (x := q * D1) hq0 (by omega), w64 (x := top - q * D1) (by omega) (by omega), w64 (x := D2) hd2.1 (by omega), w64 hb.1 (by omega)]
  refine ⟨rfl, rfl, fun hC => ?_⟩
  rw [hB] at ht2 ⊢
  rw [w64 (x := t2) ht2.1 (by omega), w64 (x := (top - q * D1) * 1000000000) (by omega) (by omega), w64 (by omega) (by omega)]

theorem q_next {X V P top t2 D1 D2 q : Int} (g : Guess X V P top t2 D1 D2) (ht : top < LB * LB) (hD1 : D1 < LB) (h : QPhi X V top D1 q)
    (hb : IntKind.u64.wrap (IntKind.u64.wrap (IntKind.u64.wrap (top - IntKind.u64.wrap (q * IntKind.u64.wrap D1)) * 1000000000) + IntKind.u64.wrap t2) < IntKind.u64.wrap (q * IntKind.u64.wrap D2) ∧ IntKind.u64.wrap (top - IntKind.u64.wrap (q * IntKind.u64.wrap D1)) < 1000000000) :
    QPhi X V top D1 (IntKind.u64.wrap (q - 1)) ∧ (IntKind.u64.wrap (q - 1)).toNat < q.toNat := by
  obtain ⟨c1, c2, c3⟩ := q_code g ht hD1 h
  rw [c3 hb.2, c2] at hb
  obtain ⟨h1, h2, h3, h4⟩ := h
  have hs := g.step h1 hb.1
  have hq := g.qnn
  have hB : LB = 1000000000 := rfl
  have hD := g.hD1
  rw [w64 (by omega) (by omega)]
  refine ⟨⟨hs, by omega, ?_, by omega⟩, by omega⟩
  rw [Int.sub_mul, Int.one_mul]; omega

theorem q_stop {X V P top t2 D1 D2 q : Int} (g : Guess X V P top t2 D1 D2) (ht : top < LB * LB) (hD1 : D1 < LB) (h : QPhi X V top D1 q)
    (hb : IntKind.u64.wrap (IntKind.u64.wrap (IntKind.u64.wrap (top - IntKind.u64.wrap (q * IntKind.u64.wrap D1)) * 1000000000) + IntKind.u64.wrap t2) < IntKind.u64.wrap (q * IntKind.u64.wrap D2) → ¬ IntKind.u64.wrap (top - IntKind.u64.wrap (q * IntKind.u64.wrap D1)) < 1000000000) :
    (X < q * V → q - 1 = X / V) ∧ (¬ X < q * V → q = X / V) := by
  obtain ⟨c1, c2, c3⟩ := q_code g ht hD1 h
  have hB : LB = 1000000000 := rfl
  refine g.last h.1 (g.stop h.2.2.2 h.2.1 ?_)
  by_cases hC : IntKind.u64.wrap (top - IntKind.u64.wrap (q * IntKind.u64.wrap D1)) < 1000000000
  · rw [c3 hC, c2] at hb
    left; intro h'; exact hb h' hC
  · right; rw [c1] at hC; rw [hB]; exact hC

theorem take_win {T : List Int} {j n : Nat} (v : Int) (h : j + n ≤ T.length) : List.take j (List.take j T ++ put (List.drop j T) n v) = List.take j T ∧ List.drop j (List.take j T ++ put (List.drop j T) n v) = put (List.drop j T) n v := by
  have hl : (List.take j T).length = j := by rw [List.length_take]; omega
  refine ⟨?_, ?_⟩
  · rw [List.take_append_of_le_length (by omega), List.take_of_length_le (by omega)]
  · rw [List.drop_append, hl, List.drop_eq_nil_of_le (by omega), Nat.sub_self]; rfl

theorem lose_back {T : List Int} {j n : Nat} {X q V : Int} (h : j + n ≤ T.length) :
    List.take j (List.take j T ++ put (List.drop j T) n (X - q * V)) ++ put (List.drop j (List.take j T ++ put (List.drop j T) n (X - q * V))) n (valL (List.take n (List.drop j (List.take j T ++ put (List.drop j T) n (X - q * V)))) + V) =
      List.take j T ++ put (List.drop j T) n (X - (q - 1) * V) := by
  obtain ⟨h1, h2⟩ := take_win (X - q * V) h
  rw [h1, h2, put_put, Int.sub_mul, Int.one_mul]
  congr 2; omega

theorem iter_start {m o D : List Int} {p : Nat} (f : DivFix m o D p) : IterPhi (valL m * scaleOf o) (valL D) m.length (p + 2) (m.length + 1 - o.length) (padL (valL m * scaleOf o).toNat (m.length + 1)) (List.replicate (m.length + 1 - o.length) 0) := by
  have hm0 := valL_nonneg f.hm.1
  have hm1 := valL_lt f.hm.1
  have hs := f.hs
  have hp := f.hp
  have hlm := f.hlm
  have h0 : 0 ≤ valL m * scaleOf o := Int.mul_nonneg hm0 (by omega)
  have h1 : valL m * scaleOf o < LB ^ m.length * scaleOf o := Int.mul_lt_mul_of_pos_right hm1 (by omega)
  have h2 : LB ^ m.length * scaleOf o ≤ LB ^ m.length * LB := Int.mul_le_mul_of_nonneg_left (by omega) (Int.le_of_lt (lbpos _))
  have h3 : LB ^ (m.length + 1) = LB ^ m.length * LB := Int.pow_succ _ _
  have hv : valL (padL (valL m * scaleOf o).toNat (m.length + 1)) = valL m * scaleOf o := by
    rw [padL_val _ _ (by omega)]; omega
  refine ⟨padL_len _ _, padL_lim _ _, by rw [List.length_replicate, f.hp], (replicate_zero _).1, by omega, ?_, ?_⟩
  · rw [List.drop_eq_nil_of_le (by rw [List.length_replicate]; omega), hv]; simp [valL]
  · rw [hv]
    have hge := valL_ge f.ho (by rintro h; have := f.hp; rw [h] at this; simp at this)
    rw [hp] at hge
    have h4 : LB ^ (p + 1) * scaleOf o ≤ valL D := by
      rw [f.hV]; exact Int.mul_le_mul_of_nonneg_right hge (by omega)
    have h5 : LB ^ (p + 1) * scaleOf o * LB ^ (m.length + 1 - o.length) ≤ valL D * LB ^ (m.length + 1 - o.length) := Int.mul_le_mul_of_nonneg_right h4 (Int.le_of_lt (lbpos _))
    have h6 : LB ^ (p + 1) * scaleOf o * LB ^ (m.length + 1 - o.length) = LB ^ m.length * scaleOf o := by
      rw [Int.mul_comm (LB ^ (p + 1)), Int.mul_assoc, ← Int.pow_add, show p + 1 + (m.length + 1 - o.length) = m.length by omega, Int.mul_comm]
    omega

theorem iter_end {m o D T Q : List Int} {p : Nat} (f : DivFix m o D p) (h : IterPhi (valL m * scaleOf o) (valL D) m.length (p + 2) 0 T Q) :
    valL Q = valL m / valL o ∧ valL T = valL m % valL o * scaleOf o ∧ valL (T.take o.length) = valL T := by
  obtain ⟨h1, h2, h3, h4, h5, h6, h7⟩ := h
  have hs := f.hs
  have hvo := f.hvo
  rw [List.drop_zero, Int.pow_zero, Int.one_mul] at h6
  rw [Int.pow_zero, Int.mul_one] at h7
  have h0 := valL_nonneg h2
  have hVl := valL_lt f.hL
  rw [f.hDl] at hVl
  have h8 : valL T = (valL m - valL o * valL Q) * scaleOf o := by
    rw [Int.sub_mul, Int.mul_assoc, Int.mul_comm (valL Q), ← Int.mul_assoc, ← f.hV]; omega
  rw [f.hV] at h7
  have h9 : 0 ≤ valL m - valL o * valL Q := by
    by_cases hc : 0 ≤ valL m - valL o * valL Q
    · exact hc
    · have := Int.mul_le_mul_of_nonneg_right (show valL m - valL o * valL Q ≤ -1 by omega) (show 0 ≤ scaleOf o by omega)
      omega
  have h10 : valL m - valL o * valL Q < valL o := Int.lt_of_mul_lt_mul_right (a := scaleOf o) (by rw [← h8]; exact h7) (by omega)
  have e1 : valL m / valL o = valL Q := by
    rw [show valL m = (valL m - valL o * valL Q) + valL Q * valL o by rw [Int.mul_comm (valL Q)]; omega, Int.add_mul_ediv_right _ _ (by omega), Int.ediv_eq_zero_of_lt h9 h10, Int.zero_add]
  refine ⟨e1.symm, ?_, ?_⟩
  · rw [h8, Int.emod_def, e1]
  · have := f.hp
    have := f.hlm
    exact (high_zero h2 (by omega) (by rw [f.hp]; have := f.hV; omega)).2.symm

theorem div_fin {m o D T Q : List Int} {p : Nat} (f : DivFix m o D p) (h : IterPhi (valL m * scaleOf o) (valL D) m.length (p + 2) 0 T Q) :
    Q = divQ m o ∧ padL (valL (enc (dec (false, T.take o.length))).2 / scaleOf o).toNat (enc (dec (false, T.take o.length))).2.length = divR m o := by
  obtain ⟨e1, e2, e3⟩ := iter_end f h
  have hs := f.hs
  have hp := f.hp
  have hv0 := Int.emod_nonneg (valL m) (Int.ne_of_gt f.hvo)
  have ed : dec (false, T.take o.length) = valL m % valL o * scaleOf o := by
    show valL (T.take o.length) = _
    rw [e3, e2]
  have hr : 0 ≤ valL m % valL o * scaleOf o := Int.mul_nonneg hv0 (by omega)
  refine ⟨?_, ?_⟩
  · unfold divQ
    rw [if_neg (by have := f.hle; omega), if_neg (by omega)]
    refine h.2.2.2.1.pad (by rw [h.2.2.1, f.hp]) ?_
    rw [e1]
    have := Int.ediv_nonneg (valL_nonneg f.hm.1) (Int.le_of_lt f.hvo)
    omega
  · unfold divR
    rw [if_neg (by have := f.hle; omega), if_neg (by omega), ed]
    show padL (valL (limbs (valL m % valL o * scaleOf o).natAbs) / scaleOf o).toNat (limbs (valL m % valL o * scaleOf o).natAbs).length = _
    rw [limbs_val, show ((valL m % valL o * scaleOf o).natAbs : Int) = valL m % valL o * scaleOf o by omega, Int.mul_ediv_cancel _ (by omega)]
    rw [show (valL m % valL o * scaleOf o).natAbs = (valL m % valL o * scaleOf o).toNat by omega]

theorem div_less {m o : List Int} (h : cmpI (valL m) (valL o) < 0) : [] = divQ m o ∧ m = divR m o := by
  have h' : valL m < valL o := by
    unfold cmpI at h
    split at h
    · assumption
    · split at h <;> omega
  unfold divQ divR
  rw [if_pos h', if_pos h']; exact ⟨rfl, rfl⟩

theorem cmp_ge {a b : Int} (h : ¬ cmpI a b < 0) : b ≤ a := by
  unfold cmpI at h
  split at h <;> omega

theorem div_one {m o : List Int} (ho : Cano o) (h0 : ¬ cmpI (valL m) (valL o) < 0) (h1 : (o.length : Int) = 1) :
    Dig1 (nth (Ty.int IntKind.u32) o 0) ∧ padL (valL m / nth (Ty.int IntKind.u32) o 0).toNat m.length = divQ m o ∧ [valL m % nth (Ty.int IntKind.u32) o 0] = divR m o := by
  have hge := cmp_ge h0
  match o, ho, h1 with
  | [x], ho, _ =>
    have hx := ho.1 x (by simp)
    have hx0 : x ≠ 0 := ho.2
    have e : valL [x] = x := valL_one x
    rw [e] at hge
    show Dig1 x ∧ padL (valL m / x).toNat m.length = _ ∧ [valL m % x] = _
    unfold divQ divR
    rw [e, if_neg (by omega), if_pos (by rfl), if_neg (by omega), if_pos (by rfl)]
    exact ⟨⟨by omega, hx.2⟩, rfl, rfl⟩
  | [], _, h1 => simp at h1
  | _ :: _ :: _, _, h1 => simp at h1; omega

theorem div_side7 {m o D : List Int} {p : Nat} (f : DivFix m o D p) : (Lim m ∧ Dig0 (scaleOf o) ∧ m.length < CAP) ∧ (Lim o ∧ Dig0 (scaleOf o) ∧ o.length < CAP) ∧ (0 : Int) ≤ 0 ∧ (0 : Int) ≤ (o.length : Int) ∧ (o.length : Int) ≤ ((padL (valL o * scaleOf o).toNat (o.length + 1)).length : Int) := by
  have hc := f.hc
  have hs := f.hs
  rw [padL_len]
  exact ⟨⟨f.hm.1, ⟨by omega, hs.2⟩, by unfold CAP; omega⟩, ⟨f.ho.1, ⟨by omega, hs.2⟩, by unfold CAP; omega⟩, by omega, by omega, by omega⟩

theorem div_cut {m o D : List Int} {p : Nat} (f : DivFix m o D p) : List.drop (Int.toNat 0) (List.take (o.length : Int).toNat (padL (valL o * scaleOf o).toNat (o.length + 1))) = D := by
  rw [Int.toNat_natCast, padL_take _ _ _ (by omega), f.hD]; rfl

theorem div_side9 {m o D : List Int} {p : Nat} (f : DivFix m o D p) {n : Int} (hn : n = IntKind.i64.wrap (((padL (valL m * scaleOf o).toNat (m.length + 1)).length : Int) - ((List.drop (Int.toNat 0) (List.take (o.length : Int).toNat (padL (valL o * scaleOf o).toNat (o.length + 1)))).length : Int)) := by rfl) :
    0 ≤ n ∧ n ≤ n ∧ Cm.Roomy 1 n.toNat := by
  have hc := f.hc
  have hlm := f.hlm
  have hp := f.hp
  rw [div_cut f, padL_len, f.hDl, wi (by omega) (by omega)] at hn
  exact ⟨by omega, by omega, by unfold Cm.Roomy; omega⟩

theorem div_le0 {m o D : List Int} {p : Nat} (f : DivFix m o D p) : List.drop (Int.toNat 0) (List.take (o.length : Int).toNat (padL (valL o * scaleOf o).toNat (o.length + 1))) = D ∧
    ((List.drop (Int.toNat 0) (List.take (o.length : Int).toNat (padL (valL o * scaleOf o).toNat (o.length + 1)))).length : Int) = (o.length : Int) ∧
    IntKind.i64.wrap (IntKind.i64.wrap (((padL (valL m * scaleOf o).toNat (m.length + 1)).length : Int) - ((List.drop (Int.toNat 0) (List.take (o.length : Int).toNat (padL (valL o * scaleOf o).toNat (o.length + 1)))).length : Int)) - 1) = ((m.length + 1 - o.length : Nat) : Int) - 1 ∧
    List.replicate (IntKind.i64.wrap (((padL (valL m * scaleOf o).toNat (m.length + 1)).length : Int) - ((List.drop (Int.toNat 0) (List.take (o.length : Int).toNat (padL (valL o * scaleOf o).toNat (o.length + 1)))).length : Int))).toNat (0 : Int) = List.replicate (m.length + 1 - o.length) 0 := by
  have hc := f.hc
  have hlm := f.hlm
  have hp := f.hp
  have hD := f.hDl
  rw [div_cut f, padL_len, f.hDl, wi (x := ((m.length + 1 : Nat) : Int) - ((p + 2 : Nat) : Int)) (by omega) (by omega), wi (by omega) (by omega)]
  exact ⟨rfl, by omega, by omega, by congr 1; omega⟩

theorem div_side21 {m o D T Q : List Int} {p k : Nat} (f : DivFix m o D p) (h : IterPhi (valL m * scaleOf o) (valL D) m.length (p + 2) k T Q) (hk : k = 0) :
    ((0 : Int) ≤ 0 ∧ (0 : Int) ≤ (o.length : Int) ∧ (o.length : Int) ≤ (T.length : Int)) ∧ (Lim (List.drop (Int.toNat 0) (List.take (o.length : Int).toNat T)) ∧ (List.drop (Int.toNat 0) (List.take (o.length : Int).toNat T)).length < CAP) ∧
      Lim (enc (dec (false, List.drop (Int.toNat 0) (List.take (o.length : Int).toNat T)))).2 ∧ Dig1 (scaleOf o) ∧ (enc (dec (false, List.drop (Int.toNat 0) (List.take (o.length : Int).toNat T)))).2.length < CAP := by
  have hc := f.hc
  have hlm := f.hlm
  have hp := f.hp
  have h1 := h.1
  rw [Int.toNat_natCast]
  show _ ∧ (Lim (List.take o.length T) ∧ (List.take o.length T).length < CAP) ∧ Lim (limbs (dec (false, List.take o.length T)).natAbs) ∧ _ ∧ (limbs (dec (false, List.take o.length T)).natAbs).length < CAP
  have hl : (List.take o.length T).length = o.length := by rw [List.length_take]; omega
  have h2 : (limbs (dec (false, List.take o.length T)).natAbs).length ≤ o.length := limbs_len (by
    have h3 := take_lt h.2.1 o.length
    show ((valL (List.take o.length T)).natAbs : Int) < _
    omega)
  refine ⟨⟨by omega, by omega, by omega⟩, ⟨h.2.1.take _, by rw [hl]; unfold CAP; omega⟩, (limbs_can _).1, ⟨by have := f.hs; omega, f.hs.2⟩, by unfold CAP; omega⟩

end Go.Cm
end

section
/- Division of integers, greatest common divisors. No program is in sight here. -/
namespace Go.Cm
open Go.Proofs

/-- The quotient, rounded down, and the remainder. -/
def floorQ (x y : Int) : Int := if 0 < y then x / y else (-x) / (-y)
def floorR (x y : Int) : Int := x - y * floorQ x y

theorem div_vals {m o : List Int} (hm : Cano m) (ho : Cano o) (hne : o ≠ []) :
    valL (divQ m o) = valL m / valL o ∧ valL (divR m o) = valL m % valL o ∧ Lim (divQ m o) ∧ Lim (divR m o) ∧ (divQ m o).length ≤ m.length ∧ (divR m o).length ≤ m.length + 1 := by
  have hm0 := valL_nonneg hm.1
  have hvo : 0 < valL o := (valL_pos ho).2 hne
  have hml := valL_lt hm.1
  have hd0 : 0 ≤ valL m / valL o := Int.ediv_nonneg hm0 (by omega)
  have hd1 : valL m / valL o ≤ valL m := Int.ediv_le_self _ hm0
  have hr0 := Int.emod_nonneg (valL m) (Int.ne_of_gt hvo)
  have hr1 := Int.emod_lt_of_pos (valL m) hvo
  by_cases hlt : valL m < valL o
  · have e1 : valL m / valL o = 0 := Int.ediv_eq_zero_of_lt hm0 hlt
    have e2 : valL m % valL o = valL m := Int.emod_eq_of_lt hm0 hlt
    unfold divQ divR
    rw [if_pos hlt, if_pos hlt, e1, e2]
    exact ⟨rfl, rfl, fun x hx => by simp at hx, hm.1, by simp, by omega⟩
  · have hle := len_le ho hm (by omega)
    by_cases h1 : o.length = 1
    · unfold divQ divR
      rw [if_neg hlt, if_neg hlt, if_pos h1, if_pos h1]
      have hx : valL o < LB := by have h := valL_lt ho.1; rw [h1, Int.pow_succ, Int.pow_zero, Int.one_mul] at h; exact h
      refine ⟨by rw [padL_val _ _ (by omega)]; omega, valL_one _, padL_lim _ _, Lim.one hr0 (by omega), by rw [padL_len]; omega, by simp⟩
    · obtain ⟨p, hp⟩ := two_or_more hne (by omega)
      have hs := scale_ok ho hp
      unfold divQ divR
      rw [if_neg hlt, if_neg hlt, if_neg h1, if_neg h1]
      have hr2 : valL m % valL o ≤ valL m % valL o * scaleOf o := by
        have := Int.mul_le_mul_of_nonneg_left hs.1.1 hr0; omega
      have hr3 : valL m % valL o * scaleOf o < LB ^ (p + 2) := by
        have := Int.mul_le_mul_of_nonneg_right (Int.le_of_lt hr1) (show 0 ≤ scaleOf o by omega)
        omega
      have hr4 := limbs_len (n := (valL m % valL o * scaleOf o).toNat) (k := p + 2) (by omega)
      have hr5 := valL_lt (limbs_can (valL m % valL o * scaleOf o).toNat).1
      rw [limbs_val] at hr5
      have hge := valL_ge ho hne
      refine ⟨?_, ?_, padL_lim _ _, padL_lim _ _, by rw [padL_len]; omega, by rw [padL_len]; omega⟩
      · rw [padL_val]
        · omega
        · have h2 : valL m / valL o < LB ^ (m.length + 1 - o.length) := by
            refine Int.ediv_lt_of_lt_mul hvo ?_
            have h3 : LB ^ (m.length + 1 - o.length) * LB ^ (o.length - 1) ≤ LB ^ (m.length + 1 - o.length) * valL o := Int.mul_le_mul_of_nonneg_left hge (Int.le_of_lt (lbpos _))
            rw [← Int.pow_add, show m.length + 1 - o.length + (o.length - 1) = m.length by omega] at h3
            omega
          omega
      · rw [padL_val _ _ (by omega)]; omega

theorem neg_div {a b : Int} (hb : 0 < b) : (a % b = 0 → (-a) / b = -(a / b)) ∧ (a % b ≠ 0 → (-a) / b = -(a / b) - 1) := by
  have h := Int.emod_add_mul_ediv a b
  have h0 := Int.emod_nonneg a (Int.ne_of_gt hb)
  have h1 := Int.emod_lt_of_pos a hb
  refine ⟨fun hz => ?_, fun hz => ?_⟩
  · refine ((Int.ediv_emod_unique (r := 0) hb).2 ⟨?_, by omega, hb⟩).1
    rw [Int.mul_neg]; omega
  · refine ((Int.ediv_emod_unique (r := b - a % b) hb).2 ⟨?_, by omega, by omega⟩).1
    rw [Int.mul_sub, Int.mul_neg, Int.mul_one]; omega

theorem wok_abs {x : Bool × List Int} (h : WOK x) : valL x.2 = (dec x).natAbs ∧ (x.1 = true → dec x < 0) ∧ (x.1 = false → 0 ≤ dec x) := by
  have h0 := valL_nonneg h.1.1
  unfold dec
  refine ⟨by split <;> omega, fun e => ?_, fun e => by rw [if_neg (by rw [e]; decide)]; exact h0⟩
  rw [if_pos e]
  have hne : x.2 ≠ [] := fun hn => by rw [h.2 hn] at e; cases e
  have := (valL_pos h.1).2 hne
  omega

/-- The first quotient and remainder, with their signs. -/
theorem div_first {x y : Bool × List Int} (hx : WOK x) (hy : WOK y) (hne : dec y ≠ 0) :
    (dec (x.1, divR x.2 y.2) ≠ 0 ∧ (x.1 != y.1) = true → dec (x.1 != y.1, divQ x.2 y.2) - 1 = floorQ (dec x) (dec y) ∧ dec (x.1, divR x.2 y.2) + dec y = floorR (dec x) (dec y)) ∧
    (¬ (dec (x.1, divR x.2 y.2) ≠ 0 ∧ (x.1 != y.1) = true) → dec (x.1 != y.1, divQ x.2 y.2) = floorQ (dec x) (dec y) ∧ dec (x.1, divR x.2 y.2) = floorR (dec x) (dec y)) := by
  have hyne : y.2 ≠ [] := fun h => hne (by unfold dec; rw [h]; simp [valL])
  obtain ⟨v1, v2, -⟩ := div_vals hx.1 hy.1 hyne
  obtain ⟨x1, x2, x3⟩ := wok_abs hx
  obtain ⟨y1, y2, y3⟩ := wok_abs hy
  obtain ⟨sx, mx⟩ := x
  obtain ⟨sy, my⟩ := y
  simp only at *
  have hb : 0 < valL my := (valL_pos hy.1).2 hyne
  have h := Int.emod_add_mul_ediv (valL mx) (valL my)
  obtain ⟨n1, n2⟩ := neg_div (a := valL mx) hb
  have ex : dec (sx, mx) = if sx = true then - valL mx else valL mx := rfl
  have ey : dec (sy, my) = if sy = true then - valL my else valL my := rfl
  have er : dec (sx, divR mx my) = if sx = true then - (valL mx % valL my) else valL mx % valL my := by unfold dec; rw [v2]
  have eq : dec (sx != sy, divQ mx my) = if (sx != sy) = true then - (valL mx / valL my) else valL mx / valL my := by unfold dec; rw [v1]
  unfold floorR floorQ
  rw [er, eq, ex, ey]
  cases sx <;> cases sy
  · simp only [Bool.false_eq_true, if_false, bne_self_eq_false, and_false, false_implies, not_false_eq_true, true_implies, true_and, if_pos hb]
    omega
  · simp only [Bool.false_eq_true, if_false, if_true, Bool.false_bne, and_true, Int.neg_neg, if_neg (show ¬ 0 < - valL my by omega)]
    refine ⟨fun hr => ?_, fun hr => ?_⟩
    · rw [n2 hr]; refine ⟨rfl, ?_⟩
      rw [Int.neg_mul, Int.mul_sub, Int.mul_neg, Int.mul_one]; omega
    · have hr0 : valL mx % valL my = 0 := by omega
      rw [n1 hr0]; refine ⟨rfl, ?_⟩
      rw [Int.neg_mul, Int.mul_neg]; omega
  · simp only [Bool.false_eq_true, if_false, if_true, Bool.true_bne, Bool.not_false, and_true, if_pos hb]
    refine ⟨fun hr => ?_, fun hr => ?_⟩
    · rw [n2 (by omega)]; refine ⟨rfl, ?_⟩
      rw [Int.mul_sub, Int.mul_neg, Int.mul_one]; omega
    · have hr0 : valL mx % valL my = 0 := by omega
      rw [n1 hr0]; refine ⟨rfl, ?_⟩
      rw [Int.mul_neg]; omega
  · simp only [Bool.false_eq_true, if_false, if_true, bne_self_eq_false, and_false, false_implies, not_false_eq_true, true_implies, true_and, Int.neg_neg, if_neg (show ¬ 0 < - valL my by omega)]
    rw [Int.neg_mul]; omega

/-- What a quotient's remainder is like. -/
theorem floor_facts {x y : Int} (hy : y ≠ 0) : x = y * floorQ x y + floorR x y ∧ (0 < y → 0 ≤ floorR x y ∧ floorR x y < y) ∧ (y < 0 → y < floorR x y ∧ floorR x y ≤ 0) := by
  refine ⟨by unfold floorR; omega, fun h => ?_, fun h => ?_⟩
  · unfold floorR floorQ
    rw [if_pos h]
    have h1 := Int.emod_add_mul_ediv x y
    have h2 := Int.emod_nonneg x hy
    have h3 := Int.emod_lt_of_pos x h
    omega
  · unfold floorR floorQ
    rw [if_neg (by omega)]
    have h1 := Int.emod_add_mul_ediv (-x) (-y)
    have h2 := Int.emod_nonneg (-x) (show -y ≠ 0 by omega)
    have h3 := Int.emod_lt_of_pos (-x) (show 0 < -y by omega)
    rw [Int.neg_mul] at h1
    omega

end Go.Cm
end

section
/- Division of integers: as the code goes. No program is in sight here. -/
namespace Go.Cm
open Go.Proofs

theorem enc_len {s : Bool} {l : List Int} (h : Lim l) : (enc (dec (s, l))).2.length ≤ l.length := by
  show (limbs (dec (s, l)).natAbs).length ≤ _
  refine limbs_len ?_
  have h0 := valL_nonneg h
  have h1 := valL_lt h
  unfold dec
  split <;> simp only <;> omega

/-- What is asked of two integers that are divided. -/
structure DivPre (x y : Bool × List Int) : Prop where
  hx : WOK x
  hy : WOK y
  hne : dec y ≠ 0
  hc : x.2.length + y.2.length + 3 < CAP

namespace DivPre
variable {x y : Bool × List Int} (h : DivPre x y)
include h

theorem ne : y.2 ≠ [] := fun e => h.hne (by unfold dec; rw [e]; simp [valL])

theorem side1 : Cano x.2 ∧ Cano y.2 ∧ y.2 ≠ [] ∧ x.2.length + y.2.length + 1 < CAP := ⟨h.hx.1, h.hy.1, h.ne, by have := h.hc; omega⟩

theorem side2 : (Lim (divQ x.2 y.2) ∧ (divQ x.2 y.2).length < CAP) ∧ Lim (divR x.2 y.2) ∧ (divR x.2 y.2).length < CAP := by
  obtain ⟨v1, v2, v3, v4, v5, v6⟩ := div_vals h.hx.1 h.hy.1 h.ne
  have := h.hc
  exact ⟨⟨v3, by omega⟩, v4, by omega⟩

theorem cond : (cmpI (dec (enc (dec (x.1, divR x.2 y.2)))) 0 ≠ 0 ∧ x.1 ≠ y.1) ↔ (dec (x.1, divR x.2 y.2) ≠ 0 ∧ (x.1 != y.1) = true) := by
  rw [dec_enc, ne_eq, cmpI_eq, bne_iff_ne]

theorem side4 : I64 1 ∧ (WOK (enc (dec (x.1 != y.1, divQ x.2 y.2))) ∧ WOK (enc 1) ∧ (enc (dec (x.1 != y.1, divQ x.2 y.2))).2.length + (enc 1).2.length < CAP) ∧ WOK (enc (dec (x.1, divR x.2 y.2))) ∧ WOK y ∧ (enc (dec (x.1, divR x.2 y.2))).2.length + y.2.length < CAP := by
  obtain ⟨v1, v2, v3, v4, v5, v6⟩ := div_vals h.hx.1 h.hy.1 h.ne
  have e1 := enc_len (s := x.1 != y.1) v3
  have e2 := enc_len (s := x.1) v4
  have e3 := enc_small (n := 1) (by unfold I64; omega)
  have := h.hc
  exact ⟨by unfold I64; omega, ⟨enc_ok _, e3.1, by omega⟩, enc_ok _, h.hy, by omega⟩

theorem fin1 (hb : cmpI (dec (enc (dec (x.1, divR x.2 y.2)))) 0 ≠ 0 ∧ x.1 ≠ y.1) :
    enc (dec (enc (dec (x.1 != y.1, divQ x.2 y.2))) - dec (enc 1)) = enc (floorQ (dec x) (dec y)) ∧ enc (dec (enc (dec (x.1, divR x.2 y.2))) + dec y) = enc (floorR (dec x) (dec y)) := by
  obtain ⟨h1, h2⟩ := (div_first h.hx h.hy h.hne).1 (h.cond.1 hb)
  rw [dec_enc, dec_enc, dec_enc, h1, h2]; exact ⟨rfl, rfl⟩

theorem fin2 (hb : (cmpI (dec (enc (dec (x.1, divR x.2 y.2)))) 0 != 0) = true → x.1 = y.1) :
    enc (dec (x.1 != y.1, divQ x.2 y.2)) = enc (floorQ (dec x) (dec y)) ∧ enc (dec (x.1, divR x.2 y.2)) = enc (floorR (dec x) (dec y)) := by
  obtain ⟨h1, h2⟩ := (div_first h.hx h.hy h.hne).2 (fun hc => by
    obtain ⟨h3, h4⟩ := h.cond.2 hc
    exact h4 (hb (by rw [bne_iff_ne]; exact h3)))
  rw [h1, h2]; exact ⟨rfl, rfl⟩

end DivPre

/-- The length of quotient and remainder. -/
theorem floor_len {x y : Bool × List Int} (hx : WOK x) (hy : WOK y) (hne : dec y ≠ 0) : (enc (floorQ (dec x) (dec y))).2.length ≤ x.2.length + 1 ∧ (enc (floorR (dec x) (dec y))).2.length ≤ y.2.length := by
  obtain ⟨f1, f2, f3⟩ := floor_facts (x := dec x) hne
  obtain ⟨x1, -⟩ := wok_abs hx
  obtain ⟨y1, -⟩ := wok_abs hy
  have hxl := valL_lt hx.1.1
  have hyl := valL_lt hy.1.1
  refine ⟨limbs_len ?_, limbs_len ?_⟩
  · have hq : (floorQ (dec x) (dec y)).natAbs ≤ (dec x).natAbs + 1 := by
      unfold floorQ
      split
      · rename_i h
        have h0 := Int.emod_add_mul_ediv (dec x) (dec y)
        have h1 := Int.emod_nonneg (dec x) hne
        have h2 := Int.emod_lt_of_pos (dec x) h
        by_cases hp : 0 ≤ dec x
        · have h3 := Int.ediv_le_self (dec y) hp
          have h4 : 0 ≤ dec x / dec y := Int.ediv_nonneg hp (by omega)
          omega
        · have h3 : -(dec x).natAbs - 1 ≤ dec x / dec y := (Int.le_ediv_iff_mul_le h).2 (by
            have h4 : (-((dec x).natAbs : Int) - 1) * dec y ≤ (-((dec x).natAbs : Int) - 1) * 1 := Int.mul_le_mul_of_nonpos_left (by omega) (by omega)
            omega)
          have h4 : dec x / dec y < 0 := Int.ediv_neg_of_neg_of_pos (by omega) h
          omega
      · rename_i h
        have hpos : 0 < - dec y := by omega
        by_cases hp : 0 ≤ - dec x
        · have h3 := Int.ediv_le_self (-dec y) hp
          have h4 : 0 ≤ (-dec x) / (-dec y) := Int.ediv_nonneg hp (by omega)
          omega
        · have h3 : -(dec x).natAbs - 1 ≤ (-dec x) / (-dec y) := (Int.le_ediv_iff_mul_le hpos).2 (by
            have h4 : (-((dec x).natAbs : Int) - 1) * (-dec y) ≤ (-((dec x).natAbs : Int) - 1) * 1 := Int.mul_le_mul_of_nonpos_left (by omega) (by omega)
            omega)
          have h4 : (-dec x) / (-dec y) < 0 := Int.ediv_neg_of_neg_of_pos (by omega) hpos
          omega
    have h3 : LB ^ (x.2.length + 1) = LB ^ x.2.length * LB := Int.pow_succ _ _
    have h4 : LB ^ x.2.length * 2 ≤ LB ^ x.2.length * LB := Int.mul_le_mul_of_nonneg_left (by decide) (Int.le_of_lt (lbpos _))
    have h5 := lbpos x.2.length
    omega
  · have : (floorR (dec x) (dec y)).natAbs < (dec y).natAbs := by
      by_cases h : 0 < dec y
      · have := f2 h; omega
      · have := f3 (by omega); omega
    omega

end Go.Cm
end

section
/- Greatest common divisors: as the code goes. No program is in sight here. -/
namespace Go.Cm
open Go.Proofs

def gcdI (a b : Int) : Int := (Nat.gcd a.natAbs b.natAbs : Nat)

theorem gcd_swap (u v : Nat) : Nat.gcd v (u % v) = Nat.gcd u v := (Nat.gcd_comm _ _).trans ((Nat.gcd_rec v u).symm.trans (Nat.gcd_comm _ _))
theorem ne_of_len {l : List Int} (h : 0 < l.length) : l ≠ [] := by rintro rfl; simp at h
theorem nil_of_len {l : List Int} (h : l.length = 0) : l = [] := List.eq_nil_of_length_eq_zero h

/-- What is asked of two integers. -/
structure GcdPre (x y : Bool × List Int) : Prop where
  hx : WOK x
  hy : WOK y
  hc : 2 * (x.2.length + y.2.length) + 4 < CAP

structure GPhi (x y : Bool × List Int) (u v : List Int) : Prop where
  hu : Cano u
  hv : Cano v
  hul : u.length ≤ x.2.length + y.2.length
  hvl : v.length ≤ x.2.length + y.2.length
  hg : Nat.gcd (valL u).toNat (valL v).toNat = Nat.gcd (dec x).natAbs (dec y).natAbs

theorem GPhi.start {x y : Bool × List Int} (h : GcdPre x y) : GPhi x y x.2 y.2 := by
  refine ⟨h.hx.1, h.hy.1, by omega, by omega, ?_⟩
  rw [(wok_abs h.hx).1, (wok_abs h.hy).1, Int.toNat_natCast, Int.toNat_natCast]

namespace GPhi
variable {x y : Bool × List Int} {u v : List Int} (h : GPhi x y u v) (hp : GcdPre x y)
include h hp

theorem side3 (hne : v ≠ []) : Cano u ∧ Cano v ∧ v ≠ [] ∧ u.length + v.length + 1 < CAP := ⟨h.hu, h.hv, hne, by have := hp.hc; have := h.hul; have := h.hvl; omega⟩

theorem side4 (hne : v ≠ []) : Lim (divR u v) ∧ (divR u v).length < CAP := by
  obtain ⟨v1, v2, v3, v4, v5, v6⟩ := div_vals h.hu h.hv hne
  exact ⟨v4, by have := hp.hc; have := h.hul; omega⟩

omit hp in
theorem rest (hne : v ≠ []) : Cano (enc (dec (false, divR u v))).2 ∧ valL (enc (dec (false, divR u v))).2 = valL u % valL v ∧ (enc (dec (false, divR u v))).2.length ≤ v.length ∧ 0 ≤ valL u % valL v ∧ valL u % valL v < valL v := by
  obtain ⟨v1, v2, v3, v4, v5, v6⟩ := div_vals h.hu h.hv hne
  have hvo : 0 < valL v := (valL_pos h.hv).2 hne
  have hr0 := Int.emod_nonneg (valL u) (Int.ne_of_gt hvo)
  have hr1 := Int.emod_lt_of_pos (valL u) hvo
  have e : dec (false, divR u v) = valL u % valL v := v2
  rw [e]
  have hl := valL_lt h.hv.1
  refine ⟨limbs_can _, ?_, limbs_len (by omega), hr0, hr1⟩
  show valL (limbs (valL u % valL v).natAbs) = _
  rw [limbs_val]; omega

theorem next (hne : v ≠ []) : GPhi x y v (enc (dec (false, divR u v))).2 ∧ (valL (enc (dec (false, divR u v))).2).toNat < (valL v).toNat := by
  obtain ⟨r1, r2, r3, r4, r5⟩ := h.rest hne
  have hu0 := valL_nonneg h.hu.1
  have hv0 := valL_nonneg h.hv.1
  refine ⟨⟨h.hv, r1, h.hvl, by have := h.hvl; omega, ?_⟩, by rw [r2]; omega⟩
  rw [← h.hg, r2, Int.toNat_emod hu0 hv0]
  exact gcd_swap _ _

omit hp in
theorem stop (he : v = []) : enc (dec (false, u)) = enc (gcdI (dec x) (dec y)) := by
  have hg := h.hg
  subst he
  have hu0 := valL_nonneg h.hu.1
  show enc (valL u) = _
  unfold gcdI
  rw [← hg]
  congr 1
  simp [valL]; omega

end GPhi

structure EPhi (x y : Bool × List Int) (a b : Int) : Prop where
  a0 : 0 ≤ a
  a1 : a < 18446744073709551616
  b0 : 0 ≤ b
  b1 : b < 18446744073709551616
  hg : Nat.gcd a.toNat b.toNat = Nat.gcd (dec x).natAbs (dec y).natAbs

theorem two_lt {l : List Int} (h : Lim l) (hl : l.length ≤ 2) : valL l < 18446744073709551616 := by
  have h1 := valL_lt h
  have h2 := pow_mono hl
  have h3 : LB ^ 2 = 1000000000000000000 := rfl
  omega

theorem EPhi.start {x y : Bool × List Int} {u v : List Int} (h : GPhi x y u v) (hp : GcdPre x y) (hne : v ≠ []) (hl : v.length ≤ 2) : EPhi x y (valL v) (valL (enc (dec (false, divR u v))).2) := by
  obtain ⟨r1, r2, r3, r4, r5⟩ := h.rest hne
  exact ⟨valL_nonneg h.hv.1, two_lt h.hv.1 hl, valL_nonneg r1.1, two_lt r1.1 (by omega), (h.next hp hne).1.hg⟩

theorem EPhi.next {x y : Bool × List Int} {a b : Int} (h : EPhi x y a b) (hb : 0 < b) : EPhi x y b (a.tmod b) ∧ (a.tmod b).toNat < b.toNat := by
  rw [Int.tmod_eq_emod_of_nonneg h.a0]
  have h0 := Int.emod_nonneg a (Int.ne_of_gt hb)
  have h1 := Int.emod_lt_of_pos a hb
  have := h.b1
  refine ⟨⟨h.b0, h.b1, h0, by omega, ?_⟩, by omega⟩
  rw [← h.hg, Int.toNat_emod h.a0 h.b0]
  exact gcd_swap _ _

theorem EPhi.stop {x y : Bool × List Int} {a b : Int} (h : EPhi x y a b) (hb : ¬ 0 < b) : a = ((gcdI (dec x) (dec y)).toNat : Int) ∧ (gcdI (dec x) (dec y)).toNat < 18446744073709551616 := by
  have hg := h.hg
  have := h.b0
  obtain rfl : b = 0 := by omega
  have : (0 : Int).toNat = 0 := rfl
  rw [this, Nat.gcd_zero_right] at hg
  have h0 := h.a0
  have h1 := h.a1
  unfold gcdI
  rw [Int.toNat_natCast, ← hg]
  omega

theorem gcd_enc (a b : Int) : (false, limbs (gcdI a b).toNat) = enc (gcdI a b) := by
  unfold enc gcdI
  simp

end Go.Cm
end

section
/- Texts in, texts out. No program is in sight here. -/
namespace Go.Cm
open Go.Proofs

abbrev WT : Ty := .st (.pair .bool (.slice (.int .u32)))

/-- A text, or why there is none. -/
def resS (e v : Int) : List UInt8 := if e = 0 then (if 2000 < ndig v then [] else Lib.itoa v) else []
def resE (e v : Int) : Int := if e = 0 then (if 2000 < ndig v then 6 else 0) else e

theorem shorts1 {a : List UInt8} (h : Short a) : Shorts [a] := ⟨by unfold CAP; simp, fun s hs => by simp only [List.mem_singleton] at hs; rw [hs]; exact h⟩
theorem shorts2 {a b : List UInt8} (h : Short a ∧ Short b) : Shorts [a, b] := ⟨by unfold CAP; simp, fun s hs => by
  rcases List.mem_cons.1 hs with rfl | hs
  · exact h.1
  · simp only [List.mem_singleton] at hs; rw [hs]; exact h.2⟩

theorem chkAll_one (a : List UInt8) : chkAll [a] = chk a := by
  simp only [chkAll]; split <;> rename_i h
  · exact h.symm
  · rfl

/-- One text that was read. -/
theorem read1 {a : List UInt8} (h : chkAll [a] = 0) : chk a = 0 ∧ (0 : Int) < ((readAll [a]).length : Int) ∧ nth WT (readAll [a]) 0 = enc (numI a) ∧ (enc (numI a)).2.length ≤ 223 := by
  have hc : chk a = 0 := by rw [← chkAll_one]; exact h
  have e : readAll [a] = [enc (numI a)] := by unfold readAll; rw [if_pos h]; rfl
  rw [e]
  exact ⟨hc, by simp, rfl, read_ok hc⟩

/-- Two texts that were read. -/
theorem read2 {a b : List UInt8} (h : chkAll [a, b] = 0) : (0 : Int) < ((readAll [a, b]).length : Int) ∧ (1 : Int) < ((readAll [a, b]).length : Int) ∧ nth WT (readAll [a, b]) 0 = enc (numI a) ∧ nth WT (readAll [a, b]) 1 = enc (numI b) ∧
    (enc (numI a)).2.length ≤ 223 ∧ (enc (numI b)).2.length ≤ 223 := by
  have hc := chkAll_ok h
  have e : readAll [a, b] = [enc (numI a), enc (numI b)] := by unfold readAll; rw [if_pos h]; rfl
  rw [e]
  exact ⟨by simp, by simp, rfl, rfl, read_ok (hc a (by simp)), read_ok (hc b (by simp))⟩

theorem numI_abs {a : List UInt8} (h : chk a = 0) : (numI a).natAbs < 10 ^ 2000 := by
  obtain ⟨d1, d2, d3, d4⟩ := chk_ok h
  have h1 := numOf_lt d1
  have h2 : 10 ^ (trimPre a [45]).length ≤ 10 ^ 2000 := pow10_mono _ 2000 (by omega)
  have h3 : (numI a).natAbs = numOf (trimPre a [45]) := by unfold numI; split <;> omega
  omega

def intV (s : List UInt8) : Int := if chk s = 0 ∧ inI64 (numI s) = true then numI s else 0
def intE (s : List UInt8) : Int := if chk s = 0 then (if inI64 (numI s) = true then 0 else 6) else chk s
def cmpV (a b : List UInt8) : Int := if chkAll [a, b] = 0 then cmpI (numI a) (numI b) else 0

theorem int_bad {s : List UInt8} (h : chkAll [s] ≠ 0) : 0 = intV s ∧ chkAll [s] = intE s := by
  rw [chkAll_one] at h ⊢
  unfold intV intE
  rw [if_neg (fun h' => h h'.1), if_neg h]; exact ⟨rfl, rfl⟩

theorem int_big {s : List UInt8} (h : chkAll [s] = 0) (hi : inI64 (dec (nth WT (readAll [s]) 0)) = false) : 0 = intV s ∧ 6 = intE s := by
  obtain ⟨r1, r2, r3, r4⟩ := read1 h
  rw [r3, dec_enc] at hi
  unfold intV intE
  rw [if_neg (fun h' => by rw [hi] at h'; exact absurd h'.2 (by decide)), if_pos r1, hi]; exact ⟨rfl, rfl⟩

theorem int_ok {s : List UInt8} (h : chkAll [s] = 0) (hi : inI64 (dec (nth WT (readAll [s]) 0)) = true) :
    (if inI64 (dec (nth WT (readAll [s]) 0)) = true then dec (nth WT (readAll [s]) 0) else 0) = intV s ∧ 0 = intE s := by
  obtain ⟨r1, r2, r3, r4⟩ := read1 h
  rw [if_pos hi]
  rw [r3, dec_enc] at hi ⊢
  unfold intV intE
  rw [if_pos ⟨r1, hi⟩, if_pos r1, hi]; exact ⟨rfl, rfl⟩

theorem cmp_bad {a b : List UInt8} (h : chkAll [a, b] ≠ 0) : 0 = cmpV a b := by unfold cmpV; rw [if_neg h]

theorem cmp_ok {a b : List UInt8} (h : chkAll [a, b] = 0) : cmpI (dec (nth WT (readAll [a, b]) 0)) (dec (nth WT (readAll [a, b]) 1)) = cmpV a b ∧ 0 = chkAll [a, b] := by
  obtain ⟨r1, r2, r3, r4, r5, r6⟩ := read2 h
  rw [r3, r4, dec_enc, dec_enc]
  unfold cmpV
  rw [if_pos h]; exact ⟨rfl, h.symm⟩

theorem cmp_side {a b : List UInt8} (h : chkAll [a, b] = 0) : ((0 : Int) ≤ 0 ∧ (0 : Int) < ((readAll [a, b]).length : Int)) ∧ ((0 : Int) ≤ 1 ∧ (1 : Int) < ((readAll [a, b]).length : Int)) ∧
    WOK (nth WT (readAll [a, b]) 0) ∧ WOK (nth WT (readAll [a, b]) 1) ∧ (nth WT (readAll [a, b]) 0).2.length + (nth WT (readAll [a, b]) 1).2.length < CAP := by
  obtain ⟨r1, r2, r3, r4, r5, r6⟩ := read2 h
  rw [r3, r4]
  exact ⟨⟨by omega, r1⟩, ⟨by omega, r2⟩, enc_ok _, enc_ok _, by unfold CAP; omega⟩

theorem app_bad {e v : Int} (h : e ≠ 0) : [] = resS e v ∧ e = resE e v := by
  unfold resS resE
  rw [if_neg h, if_neg h]; exact ⟨rfl, rfl⟩

theorem app_ok {e v : Int} (h : e = 0) : (if 2000 < ndig v then [] else Lib.itoa v) = resS e v ∧ (if 2000 < ndig v then 6 else 0) = resE e v := by
  unfold resS resE
  rw [if_pos h, if_pos h]; exact ⟨rfl, rfl⟩

theorem add_len (n : Int) (k : Nat) (h : (n.natAbs : Int) < LB ^ k) : (enc n).2.length ≤ k := limbs_len h

theorem enc_lt (n : Int) {k : Nat} (h : (enc n).2.length ≤ k) : (n.natAbs : Int) < LB ^ k := by
  have h1 := valL_lt (limbs_can n.natAbs).1
  rw [limbs_val] at h1
  exact Int.lt_of_lt_of_le h1 (pow_mono h)

theorem sum_len {x y : Int} {k : Nat} (hx : (enc x).2.length ≤ k) (hy : (enc y).2.length ≤ k) : (enc (x + y)).2.length ≤ k + 1 ∧ (enc (x - y)).2.length ≤ k + 1 ∧ (enc (x * y)).2.length ≤ k + k ∧ (enc (gcdI x y)).2.length ≤ k + k + 1 := by
  have h1 := enc_lt x hx
  have h2 := enc_lt y hy
  have h3 : LB ^ (k + 1) = LB ^ k * LB := Int.pow_succ _ _
  have h4 : LB ^ k * 2 ≤ LB ^ k * LB := Int.mul_le_mul_of_nonneg_left (by decide) (Int.le_of_lt (lbpos _))
  refine ⟨limbs_len (by omega), limbs_len (by omega), limbs_len ?_, limbs_len ?_⟩
  · rw [Int.natAbs_mul, Int.natCast_mul, Int.pow_add]
    have h5 : (x.natAbs : Int) * (y.natAbs : Int) ≤ (x.natAbs : Int) * LB ^ k := Int.mul_le_mul_of_nonneg_left (by omega) (by omega)
    have h6 : (x.natAbs : Int) * LB ^ k < LB ^ k * LB ^ k := Int.mul_lt_mul_of_pos_right h1 (lbpos _)
    omega
  · have h5 : LB ^ (k + k + 1) = LB ^ k * LB ^ (k + 1) := by rw [← Int.pow_add, Nat.add_assoc]
    have h6 : 1 * LB ^ (k + 1) ≤ LB ^ k * LB ^ (k + 1) := Int.mul_le_mul_of_nonneg_right (by have := lbpos k; omega) (Int.le_of_lt (lbpos _))
    have h7 : (gcdI x y).natAbs ≤ x.natAbs + y.natAbs := by
      unfold gcdI
      rw [Int.natAbs_natCast]
      by_cases hx0 : x.natAbs = 0
      · rw [hx0, Nat.gcd_zero_left]; omega
      · have := Nat.gcd_le_left y.natAbs (show 0 < x.natAbs by omega); omega
    omega

def divVE (a b : List UInt8) : Int := if chkAll [a, b] = 0 then (if numI b = 0 then 2 else 0) else chkAll [a, b]
def divV1 (a b : List UInt8) : List UInt8 := if divVE a b = 0 then Lib.itoa (floorQ (numI a) (numI b)) else []
def divV2 (a b : List UInt8) : List UInt8 := if divVE a b = 0 then Lib.itoa (floorR (numI a) (numI b)) else []

theorem divT_bad {a b : List UInt8} (h : chkAll [a, b] ≠ 0) : [] = divV1 a b ∧ [] = divV2 a b ∧ chkAll [a, b] = divVE a b := by
  have e : divVE a b = chkAll [a, b] := by unfold divVE; rw [if_neg h]
  unfold divV1 divV2
  rw [e, if_neg h, if_neg h]; exact ⟨rfl, rfl, rfl⟩

theorem divT_zero {a b : List UInt8} (h : chkAll [a, b] = 0) (h0 : cmpI (dec (nth WT (readAll [a, b]) 1)) 0 = 0) : [] = divV1 a b ∧ [] = divV2 a b ∧ 2 = divVE a b := by
  obtain ⟨r1, r2, r3, r4, r5, r6⟩ := read2 h
  rw [r4, dec_enc, cmpI_eq] at h0
  have e : divVE a b = 2 := by unfold divVE; rw [if_pos h, if_pos h0]
  unfold divV1 divV2
  rw [e]; exact ⟨rfl, rfl, rfl⟩

theorem divT_pre {a b : List UInt8} (h : chkAll [a, b] = 0) (h0 : cmpI (dec (nth WT (readAll [a, b]) 1)) 0 ≠ 0) : DivPre (nth WT (readAll [a, b]) 0) (nth WT (readAll [a, b]) 1) := by
  obtain ⟨r1, r2, r3, r4, r5, r6⟩ := read2 h
  rw [ne_eq, cmpI_eq] at h0
  rw [r3]
  rw [r4] at h0 ⊢
  exact ⟨enc_ok _, enc_ok _, h0, by unfold CAP; omega⟩

theorem divT_wok {x y : Bool × List Int} (h : DivPre x y) : (WOK (enc (floorQ (dec x) (dec y))) ∧ (enc (floorQ (dec x) (dec y))).2.length < CAP) ∧ WOK (enc (floorR (dec x) (dec y))) ∧ (enc (floorR (dec x) (dec y))).2.length < CAP := by
  obtain ⟨h1, h2⟩ := floor_len h.hx h.hy h.hne
  have := h.hc
  exact ⟨⟨enc_ok _, by omega⟩, enc_ok _, by omega⟩

theorem divT_fin {a b : List UInt8} (h : chkAll [a, b] = 0) (h0 : cmpI (dec (nth WT (readAll [a, b]) 1)) 0 ≠ 0) :
    Lib.itoa (dec (enc (floorQ (dec (nth WT (readAll [a, b]) 0)) (dec (nth WT (readAll [a, b]) 1))))) = divV1 a b ∧ Lib.itoa (dec (enc (floorR (dec (nth WT (readAll [a, b]) 0)) (dec (nth WT (readAll [a, b]) 1))))) = divV2 a b ∧ 0 = divVE a b := by
  obtain ⟨r1, r2, r3, r4, r5, r6⟩ := read2 h
  rw [r4, dec_enc, ne_eq, cmpI_eq] at h0
  have e : divVE a b = 0 := by unfold divVE; rw [if_pos h, if_neg h0]
  unfold divV1 divV2
  rw [e, r3, r4, dec_enc, dec_enc, dec_enc, dec_enc, if_pos rfl, if_pos rfl]; exact ⟨rfl, rfl, rfl⟩

end Go.Cm
end

section
/- Powers. No program is in sight here. -/
namespace Go.Cm
open Go.Proofs

/-- So many rounds of a power, until it gets too long. -/
def powRun (x : Int) : Nat → Int → Option Int
  | 0, p => some p
  | k + 1, p => if ndig (p * x) ≤ 2000 then powRun x k (p * x) else none

/-- How many rounds. -/
def powN (x n : Int) : Int := if x * x ≤ 1 then min n (2 - n.tmod 2) else n
def powE (s : List UInt8) (n : Int) : Int :=
  if chk s ≠ 0 then chk s else if n < 0 ∨ 10000 < n then 2 else match powRun (numI s) (powN (numI s) n).toNat 1 with
    | some _ => 0
    | none => 6
def powV (s : List UInt8) (n : Int) : List UInt8 :=
  if powE s n = 0 then match powRun (numI s) (powN (numI s) n).toNat 1 with
    | some p => Lib.itoa p
    | none => []
  else []

/-- A power on its way. -/
structure PowPhi (s : List UInt8) (n : Int) (k : Nat) (p : Int) : Prop where
  hk : (k : Int) ≤ powN (numI s) n
  hr : powRun (numI s) (powN (numI s) n).toNat 1 = powRun (numI s) ((powN (numI s) n).toNat - k) p
  hd : ndig p ≤ 2000

theorem decDigits_some (n : Nat) : 1 ≤ (Lib.decDigits n).length := by
  by_cases hz : (Lib.decDigits n).length = 0
  · exfalso
    have := List.eq_nil_of_length_eq_zero hz
    unfold Lib.decDigits at this
    split at this <;> simp at this
  · omega

theorem ndig_len {p : Int} (h : ndig p ≤ 2000) : (enc p).2.length ≤ 223 := by
  refine limbs_len (k := 223) ?_
  rw [pow9]
  have h1 : p.natAbs < 10 ^ 2000 := by
    by_cases h0 : p.natAbs = 0
    · rw [h0]; exact pow10_pos 2000
    · by_cases hlt : p.natAbs < 10 ^ 2000
      · exact hlt
      · exfalso
        have e := pow10_split p.natAbs 2000
        have hpos := pow10_div p.natAbs 2000 (by omega)
        have hl := decDigits_len (u := p.natAbs % 10 ^ 2000) (k := 2000) (v := p.natAbs / 10 ^ 2000) hpos (pow10_mod p.natAbs 2000)
        rw [← e] at hl
        have hn : (Lib.itoa (p.natAbs : Int)).length = (Lib.decDigits p.natAbs).length := by
          unfold Lib.itoa
          rw [if_neg (by omega)]
          simp
        unfold ndig at h
        rw [hn, hl] at h
        have h3 := decDigits_some (p.natAbs / 10 ^ 2000)
        omega
  have h2 := pow10_mono 2000 (9 * 223) (by decide)
  exact Int.ofNat_lt.2 (Nat.lt_of_lt_of_le h1 h2)

theorem mul_len {x y : Bool × List Int} (hx : WOK x) (hy : WOK y) (h1 : x.2.length ≤ 300) (h2 : y.2.length ≤ 300) : (enc (dec x * dec y)).2.length ≤ 600 :=
  (sum_len (x := dec x) (y := dec y) (k := 300) (by rw [hx.enc]; exact h1) (by rw [hy.enc]; exact h2)).2.2.1

theorem pow_cond {x : Int} {y : Bool × List Int} (h : y = enc x) : cmpI (dec (enc (dec y * dec y))) (dec (enc 1)) ≤ 0 ↔ x * x ≤ 1 := by
  rw [h, dec_enc, dec_enc, dec_enc]
  unfold cmpI
  split
  · constructor <;> intro <;> omega
  · split <;> constructor <;> intro <;> omega

theorem pow_start {s : List UInt8} {n : Int} (hn : 0 ≤ n) : PowPhi s n 0 1 := by
  refine ⟨?_, rfl, ?_⟩
  · unfold powN
    split
    · have := Int.tmod_lt_of_pos n (show (0 : Int) < 2 by decide)
      simp; omega
    · simpa using hn
  · simp [ndig, Lib.itoa, Lib.decDigits]

theorem pow_in {n : Int} (h : ¬ (n < 0 ∨ 10000 < n)) : 0 ≤ n ∧ n ≤ 10000 := by omega
theorem I64.b {n : Int} (h : I64 n) : -9223372036854775808 ≤ n ∧ n ≤ 9223372036854775807 := h

theorem powN_le {x n : Int} (hn : 0 ≤ n) : powN x n ≤ n := by
  unfold powN; split <;> omega

theorem pow_next {s : List UInt8} {n : Int} {k : Nat} {p : Int} (h : PowPhi s n k p) (hk : (k : Int) < powN (numI s) n) (hd : ndig (p * numI s) ≤ 2000) : PowPhi s n (k + 1) (p * numI s) := by
  refine ⟨by omega, ?_, hd⟩
  rw [h.hr, show (powN (numI s) n).toNat - k = ((powN (numI s) n).toNat - (k + 1)) + 1 by omega, powRun, if_pos hd]

theorem pow_long {s : List UInt8} {n : Int} {k : Nat} {p : Int} (hc : chk s = 0) (hn : ¬ (n < 0 ∨ 10000 < n)) (h : PowPhi s n k p) (hk : (k : Int) < powN (numI s) n) (hd : ¬ ndig (p * numI s) ≤ 2000) : [] = powV s n ∧ 6 = powE s n := by
  have e : powRun (numI s) (powN (numI s) n).toNat 1 = none := by
    rw [h.hr, show (powN (numI s) n).toNat - k = ((powN (numI s) n).toNat - (k + 1)) + 1 by omega, powRun, if_neg hd]
  have e2 : powE s n = 6 := by unfold powE; rw [if_neg (fun h => h hc), if_neg hn, e]
  unfold powV
  rw [e2]; exact ⟨rfl, rfl⟩

theorem pow_done {s : List UInt8} {n : Int} {k : Nat} {p : Int} (hc : chk s = 0) (hn : ¬ (n < 0 ∨ 10000 < n)) (h : PowPhi s n k p) (hk : ¬ (k : Int) < powN (numI s) n) :
    (if 2000 < ndig (dec (enc p)) then [] else Lib.itoa (dec (enc p))) = powV s n ∧ (if 2000 < ndig (dec (enc p)) then 6 else 0) = powE s n := by
  have e : powRun (numI s) (powN (numI s) n).toNat 1 = some p := by
    rw [h.hr, show (powN (numI s) n).toNat - k = 0 by omega]; rfl
  have e2 : powE s n = 0 := by unfold powE; rw [if_neg (fun h => h hc), if_neg hn, e]
  have hd := h.hd
  have hnl : ¬ 2000 < ndig p := by omega
  rw [dec_enc, if_neg hnl, if_neg hnl]
  unfold powV
  rw [e2, if_pos rfl, e]; exact ⟨rfl, rfl⟩

theorem pow_bad {s : List UInt8} {n : Int} (hc : chkAll [s] ≠ 0) : [] = powV s n ∧ chkAll [s] = powE s n := by
  rw [chkAll_one] at hc ⊢
  have e : powE s n = chk s := by unfold powE; rw [if_pos hc]
  unfold powV
  rw [e, if_neg hc]; exact ⟨rfl, rfl⟩

theorem pow_out {s : List UInt8} {n : Int} (hc : chk s = 0) (hn : n < 0 ∨ 10000 < n) : [] = powV s n ∧ 2 = powE s n := by
  have e : powE s n = 2 := by unfold powE; rw [if_neg (fun h => h hc), if_pos hn]
  unfold powV
  rw [e]; exact ⟨rfl, rfl⟩

end Go.Cm
end

section
/- Drafts of integers: the text they stand for. No program is in sight here. -/
namespace Go.Cm
open Go.Proofs

abbrev DT : Ty := .st (.pair .bool (.pair (.slice (.int .u8)) (.int .u8)))

/-- A letter. -/
def dgt (c : Int) : UInt8 := UInt8.ofNat (48 + c % 10).toNat
def dstep (s : List UInt8) (c : Int) : List UInt8 := if s ≠ [] ∨ 0 < c % 10 then s ++ [dgt c] else s
def dpass (D : List Int) (s : List UInt8) : List UInt8 := (D.take 30).foldl dstep s
def dpasses (D : List Int) : Nat → List UInt8
  | 0 => []
  | n + 1 => dpass D (dpasses D n)
/-- The digits of a draft. -/
def dmag (d : Bool × List Int × Int) : List UInt8 := dpasses d.2.1 ((d.2.2 % 8).toNat + 1)
/-- The text of a draft. -/
def dtext (d : Bool × List Int × Int) : List UInt8 := if dmag d = [] then [48] else if d.1 = true then 45 :: dmag d else dmag d

def DOK (d : Bool × List Int × Int) : Prop := (∀ c ∈ d.2.1, 0 ≤ c ∧ c < 256) ∧ 0 ≤ d.2.2 ∧ d.2.2 < 256

structure InPhi (D : List Int) (s0 : List UInt8) (i : Nat) (s : List UInt8) : Prop where
  h1 : i ≤ D.length
  h2 : i ≤ 30
  h3 : s = (D.take i).foldl dstep s0

theorem in_next {D : List Int} {s0 s : List UInt8} {i : Nat} (h : InPhi D s0 i s) (hl : i < D.length) (h3 : i < 30) : InPhi D s0 (i + 1) (dstep s (D.getD i 0)) := by
  refine ⟨by omega, by omega, ?_⟩
  rw [List.take_add_one, List.foldl_append, ← h.h3, List.getD_eq_getElem?_getD, List.getElem?_eq_getElem hl]; rfl

theorem in_end {D : List Int} {s0 s : List UInt8} {i : Nat} (h : InPhi D s0 i s) (hn : ¬ (i < D.length ∧ i < 30)) : s = dpass D s0 := by
  rw [h.h3]
  unfold dpass
  by_cases hi : i = 30
  · rw [hi]
  · have := h.h1
    have := h.h2
    rw [List.take_of_length_le (by omega), List.take_of_length_le (by omega)]

theorem dstep_len (s : List UInt8) (c : Int) : (dstep s c).length ≤ s.length + 1 := by
  unfold dstep; split <;> simp

theorem foldl_len : ∀ (l : List Int) (s : List UInt8), (l.foldl dstep s).length ≤ s.length + l.length
  | [], s => by simp
  | c :: l, s => by
    have h1 := foldl_len l (dstep s c)
    have h2 := dstep_len s c
    simp only [List.foldl_cons, List.length_cons]; omega

theorem dpass_len (D : List Int) (s : List UInt8) : (dpass D s).length ≤ s.length + 30 := by
  have := foldl_len (D.take 30) s
  have h2 : (D.take 30).length ≤ 30 := by rw [List.length_take]; omega
  unfold dpass; omega

theorem dpasses_len (D : List Int) : ∀ n, (dpasses D n).length ≤ 30 * n
  | 0 => by simp [dpasses]
  | n + 1 => by
    have h1 := dpasses_len D n
    have h2 := dpass_len D (dpasses D n)
    rw [dpasses]; omega

theorem dmag_len {d : Bool × List Int × Int} (h : DOK d) : (dmag d).length ≤ 240 := by
  have h1 := dpasses_len d.2.1 ((d.2.2 % 8).toNat + 1)
  have h2 := h.2.1
  unfold dmag; omega

theorem w8 {x : Int} (h0 : 0 ≤ x) (h1 : x < 256) : IntKind.u8.wrap x = x := by
  have h : IntKind.u8.wrap x = x % 256 := by simp [IntKind.wrap, IntKind.signed, IntKind.bits]
  rw [h]; omega

theorem draft_c {D : List Int} (h : ∀ c ∈ D, 0 ≤ c ∧ c < 256) (i : Nat) : strOf [IntKind.u8.wrap (48 + Int.tmod (nth (Ty.int IntKind.u8) D (i : Int)) 10)] = [dgt (D.getD i 0)] ∧ Int.tmod (nth (Ty.int IntKind.u8) D (i : Int)) 10 = D.getD i 0 % 10 := by
  have hx : 0 ≤ D.getD i 0 ∧ D.getD i 0 < 256 := by
    by_cases hi : i < D.length
    · rw [List.getD_eq_getElem?_getD, List.getElem?_eq_getElem hi]; exact h _ (List.getElem_mem hi)
    · rw [List.getD_eq_getElem?_getD, List.getElem?_eq_none (by omega)]; decide
  have e : nth (Ty.int IntKind.u8) D (i : Int) = D.getD i 0 := rfl
  rw [e, Int.tmod_eq_emod_of_nonneg hx.1, w8 (by omega) (by omega)]
  exact ⟨rfl, rfl⟩

theorem in_true {d : Bool × List Int × Int} {k i : Nat} {s : List UInt8} (hd : DOK d) (h : InPhi d.2.1 (dpasses d.2.1 k) i s) (hb1 : (i : Int) < (d.2.1.length : Int) ∧ (i : Int) < 30)
    (hb2 : (s != [] || decide (0 < Int.tmod (nth (Ty.int IntKind.u8) d.2.1 (i : Int)) 10)) = true) :
    ∃ a : Nat, IntKind.i64.wrap ((i : Int) + 1) = (a : Int) ∧ InPhi d.2.1 (dpasses d.2.1 k) a (s ++ strOf [IntKind.u8.wrap (48 + Int.tmod (nth (Ty.int IntKind.u8) d.2.1 (i : Int)) 10)]) ∧ 30 - a < 30 - i := by
  obtain ⟨c1, c2⟩ := draft_c hd.1 i
  rw [c2] at hb2
  have hb3 : s ≠ [] ∨ 0 < d.2.1.getD i 0 % 10 := by simpa using hb2
  refine ⟨i + 1, by rw [wi (by omega) (by omega)]; simp, ?_, by omega⟩
  have := in_next h (by omega) (by omega)
  rw [dstep, if_pos hb3] at this
  rw [c1]; exact this

theorem in_false {d : Bool × List Int × Int} {k i : Nat} {s : List UInt8} (hd : DOK d) (h : InPhi d.2.1 (dpasses d.2.1 k) i s) (hb1 : (i : Int) < (d.2.1.length : Int) ∧ (i : Int) < 30)
    (hb2 : (s != [] || decide (0 < Int.tmod (nth (Ty.int IntKind.u8) d.2.1 (i : Int)) 10)) = false) :
    ∃ a : Nat, IntKind.i64.wrap ((i : Int) + 1) = (a : Int) ∧ InPhi d.2.1 (dpasses d.2.1 k) a s ∧ 30 - a < 30 - i := by
  obtain ⟨c1, c2⟩ := draft_c hd.1 i
  rw [c2] at hb2
  have hb3 : ¬ (s ≠ [] ∨ 0 < d.2.1.getD i 0 % 10) := by
    intro h'
    have : (s != [] || decide (0 < d.2.1.getD i 0 % 10)) = true := by simpa using h'
    rw [hb2] at this; cases this
  refine ⟨i + 1, by rw [wi (by omega) (by omega)]; simp, ?_, by omega⟩
  have := in_next h (by omega) (by omega)
  rw [dstep, if_neg hb3] at this
  exact this

theorem z_code {z : Int} (h : 0 ≤ z ∧ z < 256) : IntKind.i64.wrap (Int.tmod z 8) = z % 8 := by
  rw [Int.tmod_eq_emod_of_nonneg h.1, wi (by omega) (by omega)]

theorem out_next {d : Bool × List Int × Int} {k i : Nat} {s : List UInt8} (hd : DOK d) (hk : k ≤ (d.2.2 % 8).toNat + 1) (hb : (k : Int) ≤ IntKind.i64.wrap (Int.tmod d.2.2 8)) (h : InPhi d.2.1 (dpasses d.2.1 k) i s) (hn : (i : Int) < (d.2.1.length : Int) → ¬ (i : Int) < 30) :
    ∃ z : Nat, s = dpasses d.2.1 z ∧ IntKind.i64.wrap ((k : Int) + 1) = (z : Int) ∧ z ≤ Int.toNat (d.2.2 % 8) + 1 ∧ Int.toNat (d.2.2 % 8) + 1 - z < Int.toNat (d.2.2 % 8) + 1 - k := by
  rw [z_code hd.2] at hb
  have := hd.2
  refine ⟨k + 1, ?_, by rw [wi (by omega) (by omega)]; simp, by omega, by omega⟩
  rw [in_end h (by omega)]; rfl

theorem out_end {d : Bool × List Int × Int} {k : Nat} (hd : DOK d) (hk : k ≤ (d.2.2 % 8).toNat + 1) (hb : ¬ (k : Int) ≤ IntKind.i64.wrap (Int.tmod d.2.2 8)) : dpasses d.2.1 k = dmag d := by
  rw [z_code hd.2] at hb
  have := hd.2
  unfold dmag
  rw [show k = (d.2.2 % 8).toNat + 1 by omega]

theorem in_len {d : Bool × List Int × Int} {k i : Nat} {s : List UInt8} (hd : DOK d) (hk : k ≤ (d.2.2 % 8).toNat + 1) (h : InPhi d.2.1 (dpasses d.2.1 k) i s) : s.length ≤ 300 := by
  have h1 := foldl_len (d.2.1.take i) (dpasses d.2.1 k)
  have h2 := dpasses_len d.2.1 k
  have h3 := h.h2
  have h4 : (d.2.1.take i).length ≤ i := by rw [List.length_take]; omega
  have := hd.2
  rw [h.h3]; omega

end Go.Cm
end

section
/- Right texts and the integers they stand for. No program is in sight here. -/
namespace Go.Cm
open Go.Proofs

theorem dig_char {d : Nat} (h : d < 10) : (UInt8.ofNat (48 + d)).toNat = 48 + d := by
  rw [UInt8.toNat_ofNat']; exact Nat.mod_eq_of_lt (by omega)

theorem dec_digits : ∀ (u : Nat), Digits (Lib.decDigits u) ∧ numOf (Lib.decDigits u) = u ∧ (Lib.decDigits u) ≠ [] ∧ (0 < u → (Lib.decDigits u).getD 0 0 ≠ 48) := by
  intro u
  induction u using Nat.strongRecOn with
  | ind u ih =>
    rw [Lib.decDigits]
    split
    · rename_i h
      have hc := dig_char h
      refine ⟨fun c hc' => ?_, ?_, by simp, fun hp => ?_⟩
      · simp only [List.mem_singleton] at hc'; rw [hc', hc]; omega
      · simp only [numOf, List.foldl_cons, List.foldl_nil, hc]; omega
      · simp only [List.getD_cons_zero]
        intro e
        have := congrArg UInt8.toNat e
        rw [hc] at this
        have h48 : (48 : UInt8).toNat = 48 := rfl
        omega
    · rename_i h
      have hc := dig_char (d := u % 10) (by omega)
      obtain ⟨h1, h2, h3, h4⟩ := ih (u / 10) (by omega)
      refine ⟨fun c hc' => ?_, ?_, by simp, fun _ => ?_⟩
      · rcases List.mem_append.1 hc' with hc' | hc'
        · exact h1 c hc'
        · simp only [List.mem_singleton] at hc'; rw [hc', hc]; omega
      · rw [numOf_append, h2]
        simp only [numOf, List.foldl_cons, List.foldl_nil, hc, List.length_cons, List.length_nil]; omega
      · match hq : Lib.decDigits (u / 10), h3 with
        | a :: l, _ => rw [hq] at h4; simpa using h4 (by omega)

theorem digits_dec {D : List UInt8} (h : Digits D) (hne : D ≠ []) (h0 : D.getD 0 0 ≠ 48 ∨ D.length = 1) : Lib.decDigits (numOf D) = D := by
  have key : ∀ (n : Nat) (D : List UInt8), D.length = n + 1 → Digits D → (D.getD 0 0 ≠ 48 ∨ D.length = 1) → Lib.decDigits (numOf D) = D := by
    intro n
    induction n with
    | zero =>
      intro D hl hd _
      match D, hl with
      | [c], _ =>
        have hc := hd c (by simp)
        have e : numOf [c] = c.toNat - 48 := by simp [numOf]
        rw [e, Lib.decDigits, dif_pos (by omega), show 48 + (c.toNat - 48) = c.toNat by omega, UInt8.ofNat_toNat]
    | succ n ih =>
      intro D hl hd h0
      have hne : D ≠ [] := by rintro rfl; simp at hl
      have e := List.dropLast_concat_getLast hne
      generalize hP : D.dropLast = P at e
      generalize D.getLast hne = c at e
      have hPl : P.length = n + 1 := by rw [← hP, List.length_dropLast]; omega
      have hdP : Digits P := fun x hx => hd x (by rw [← e]; simp [hx])
      have hc := hd c (by rw [← e]; simp)
      have hg : P.getD 0 0 = D.getD 0 0 := by
        rw [← e]
        match P, hPl with
        | a :: l, _ => simp
      have h0D : D.getD 0 0 ≠ 48 := by rcases h0 with h | h
                                       · exact h
                                       · omega
      have h0P : P.getD 0 0 ≠ 48 := by rw [hg]; exact h0D
      have hi := ih P hPl hdP (.inl h0P)
      have hpos : 0 < numOf P := by
        by_cases hz : numOf P = 0
        · exfalso
          rw [hz] at hi
          have h5 : Lib.decDigits 0 = [48] := by rw [Lib.decDigits]; rfl
          rw [h5] at hi
          rw [← hi] at h0P
          exact h0P rfl
        · omega
      have hv : numOf D = numOf P * 10 + (c.toNat - 48) := by
        rw [← e, numOf_append]; simp [numOf]
      rw [hv, Lib.decDigits, dif_neg (by omega), show (numOf P * 10 + (c.toNat - 48)) / 10 = numOf P by omega, show (numOf P * 10 + (c.toNat - 48)) % 10 = c.toNat - 48 by omega, hi,
        show 48 + (c.toNat - 48) = c.toNat by omega, UInt8.ofNat_toNat, e]
  match D, hne with
  | a :: l, _ => exact key l.length (a :: l) (by simp) h h0

theorem hasPre_cons (l : List UInt8) : hasPre (45 :: l) [45] = true ∧ trimPre (45 :: l) [45] = l := by
  have h : hasPre (45 :: l) [45] = true := by simp [hasPre]
  refine ⟨h, ?_⟩
  unfold trimPre; rw [if_pos h]; rfl

theorem hasPre_dig {D : List UInt8} (h : Digits D) : hasPre D [45] = false ∧ trimPre D [45] = D := by
  have h1 : hasPre D [45] = false := by
    rw [Bool.eq_false_iff]
    intro hp
    unfold hasPre at hp
    simp only [Bool.and_eq_true, decide_eq_true_eq, beq_iff_eq] at hp
    match D, hp.2 with
    | c :: l, e =>
      simp at e
      have := h c (by simp)
      rw [e] at this
      exact absurd this.1 (by decide)
    | [], e => simp at e
  refine ⟨h1, ?_⟩
  unfold trimPre; rw [if_neg (by rw [h1]; decide)]

/-- A text with its sign: what it is, what it tells. -/
theorem chk_digits {s D : List UInt8} (ht : trimPre s [45] = D) (h : Digits D) (hne : D ≠ []) (h0 : D.getD 0 0 ≠ 48 ∨ s = [48]) : chk s = if 2000 < D.length then 6 else 0 := by
  by_cases h48 : s = [48]
  · rw [h48] at ht ⊢
    have : D = [48] := by rw [← ht]; decide
    rw [this]; decide
  · refine (chk_good h48 (by
      rw [ht]
      rintro (h1 | h1)
      · exact hne h1
      · rcases h0 with h0 | h0
        · exact h0 h1
        · exact h48 h0) (by
      rw [ht, List.all_eq_true]
      intro c hc
      have := h c hc
      simp [isDig]; omega)).trans ?_
    rw [ht]

theorem ndig_itoa (n : Int) : ndig n = ((Lib.decDigits n.natAbs).length : Int) := by
  unfold ndig Lib.itoa
  rw [if_neg (by omega)]
  simp

/-- The text of an integer. -/
theorem itoa_facts (n : Int) : chk (Lib.itoa n) = (if 2000 < ndig n then 6 else 0) ∧ numI (Lib.itoa n) = n := by
  obtain ⟨d1, d2, d3, d4⟩ := dec_digits n.natAbs
  by_cases hn : n < 0
  · have e : Lib.itoa n = 45 :: Lib.decDigits n.natAbs := by unfold Lib.itoa; rw [if_pos hn]
    obtain ⟨p1, p2⟩ := hasPre_cons (Lib.decDigits n.natAbs)
    rw [e, chk_digits p2 d1 d3 (.inl (d4 (by omega))), ndig_itoa]
    refine ⟨?_, ?_⟩
    · by_cases h : 2000 < (Lib.decDigits n.natAbs).length
      · rw [if_pos h, if_pos (by omega)]
      · rw [if_neg h, if_neg (by omega)]
    · unfold numI; rw [if_pos p1, p2, d2]; omega
  · have e : Lib.itoa n = Lib.decDigits n.natAbs := by
      unfold Lib.itoa; rw [if_neg hn]; congr 1; omega
    obtain ⟨p1, p2⟩ := hasPre_dig d1
    have h0 : (Lib.decDigits n.natAbs).getD 0 0 ≠ 48 ∨ Lib.decDigits n.natAbs = [48] := by
      by_cases hz : n.natAbs = 0
      · right; rw [hz, Lib.decDigits]; rfl
      · exact .inl (d4 (by omega))
    rw [e, chk_digits p2 d1 d3 h0, ndig_itoa]
    refine ⟨?_, ?_⟩
    · by_cases h : 2000 < (Lib.decDigits n.natAbs).length
      · rw [if_pos h, if_pos (by omega)]
      · rw [if_neg h, if_neg (by omega)]
    · unfold numI; rw [if_neg (by rw [p1]; decide), p2, d2]; omega

/-- A right text is the text of its integer. -/
theorem itoa_numI {s : List UInt8} (h : chk s = 0) : Lib.itoa (numI s) = s ∧ ndig (numI s) ≤ 2000 := by
  obtain ⟨c1, c2, c3, c4⟩ := chk_ok h
  have hne : trimPre s [45] ≠ [] := by intro e; rw [e] at c2; simp at c2
  by_cases h48 : s = [48]
  · subst h48
    have e : numI [48] = 0 := by decide
    rw [e]
    refine ⟨by simp [Lib.itoa, Lib.decDigits], by rw [ndig_zero]; decide⟩
  · have h0 := c4 h48
    have hd := digits_dec c1 hne (.inl h0)
    have hpos : 0 < numOf (trimPre s [45]) := by
      by_cases hz : numOf (trimPre s [45]) = 0
      · exfalso
        rw [hz] at hd
        have h5 : Lib.decDigits 0 = [48] := by rw [Lib.decDigits]; rfl
        rw [h5] at hd
        rw [← hd] at h0
        exact h0 rfl
      · omega
    have habs : (numI s).natAbs = numOf (trimPre s [45]) := by unfold numI; split <;> omega
    refine ⟨?_, by rw [ndig_itoa, habs, hd]; omega⟩
    unfold numI Lib.itoa
    by_cases hp : hasPre s [45] = true
    · rw [if_pos hp, if_pos (by omega), show (-(numOf (trimPre s [45]) : Int)).natAbs = numOf (trimPre s [45]) by omega, hd]
      unfold trimPre
      rw [if_pos hp]
      unfold hasPre at hp
      simp only [Bool.and_eq_true, decide_eq_true_eq, beq_iff_eq] at hp
      match s, hp.2 with
      | c :: l, e => simp at e; rw [e]; rfl
      | [], e => simp at e
    · rw [if_neg hp, if_neg (by omega), Int.toNat_natCast, hd]
      unfold trimPre
      rw [if_neg hp]

end Go.Cm
end

section
/- Drafts give right texts; what calls answer for right texts. No program is in sight here. -/
namespace Go.Cm
open Go.Proofs

def Right (s : List UInt8) : Prop := Digits s ∧ (s ≠ [] → s.getD 0 0 ≠ 48)

theorem dgt_char {c : Int} : 48 ≤ (dgt c).toNat ∧ (dgt c).toNat ≤ 57 ∧ (0 < c % 10 → (dgt c).toNat ≠ 48) := by
  unfold dgt
  rw [show (48 + c % 10).toNat = 48 + (c % 10).toNat by omega, dig_char (by omega)]
  omega

theorem dstep_right {s : List UInt8} {c : Int} (h : Right s) : Right (dstep s c) := by
  obtain ⟨c1, c2, c3⟩ := dgt_char (c := c)
  unfold dstep
  split
  · rename_i hc
    refine ⟨fun x hx => ?_, fun _ => ?_⟩
    · rcases List.mem_append.1 hx with hx | hx
      · exact h.1 x hx
      · simp only [List.mem_singleton] at hx; rw [hx]; exact ⟨c1, c2⟩
    · match s, hc, h with
      | [], hc, _ =>
        have h0 : 0 < c % 10 := by rcases hc with hc | hc
                                   · exact absurd rfl hc
                                   · exact hc
        show dgt c ≠ 48
        intro e
        exact c3 h0 (congrArg UInt8.toNat e)
      | a :: l, _, h => exact h.2 (by simp)
  · exact h

theorem foldl_right : ∀ (l : List Int) (s : List UInt8), Right s → Right (l.foldl dstep s)
  | [], _, h => h
  | c :: l, s, h => foldl_right l _ (dstep_right h)

theorem dpasses_right (D : List Int) : ∀ n, Right (dpasses D n)
  | 0 => ⟨fun x hx => by simp [dpasses] at hx, fun h => absurd rfl h⟩
  | n + 1 => foldl_right _ _ (dpasses_right D n)

/-- The text of a draft is right, and not long. -/
theorem dtext_ok {d : Bool × List Int × Int} (h : DOK d) : chk (dtext d) = 0 ∧ (numI (dtext d)).natAbs < 10 ^ 240 := by
  obtain ⟨r1, r2⟩ := dpasses_right d.2.1 ((d.2.2 % 8).toNat + 1)
  have hl := dmag_len h
  change Digits (dmag d) at r1
  change dmag d ≠ [] → (dmag d).getD 0 0 ≠ 48 at r2
  have hn : numOf (dmag d) < 10 ^ 240 := Nat.lt_of_lt_of_le (numOf_lt r1) (Nat.pow_le_pow_right (by decide) hl)
  unfold dtext
  by_cases h0 : dmag d = []
  · rw [if_pos h0]; exact ⟨by decide, by decide⟩
  · rw [if_neg h0]
    by_cases hs : d.1 = true
    · rw [if_pos hs]
      obtain ⟨p1, p2⟩ := hasPre_cons (dmag d)
      refine ⟨by rw [chk_digits p2 r1 h0 (.inl (r2 h0)), if_neg (by omega)], ?_⟩
      unfold numI; rw [if_pos p1, p2]; omega
    · rw [if_neg hs]
      obtain ⟨p1, p2⟩ := hasPre_dig r1
      refine ⟨by rw [chk_digits p2 r1 h0 (.inl (r2 h0)), if_neg (by omega)], ?_⟩
      unfold numI; rw [if_neg (by rw [p1]; decide), p2]; omega

theorem chkAll_two {a b : List UInt8} (ha : chk a = 0) (hb : chk b = 0) : chkAll [a, b] = 0 := by
  simp only [chkAll]; rw [if_pos ha, if_pos hb]

/-- A number of few digits. -/
theorem ndig_le {n : Int} {k : Nat} (hk : 0 < k) (h : n.natAbs < 10 ^ k) : ndig n ≤ k := by
  have := decDigits_lt h hk
  rw [ndig_itoa]; omega

/-- What a call answers for right texts, where the outcome is not long. -/
theorem res_val {e v : Int} (he : e = 0) (hv : ndig v ≤ 2000) : resS e v = Lib.itoa v ∧ resE e v = 0 ∧ chk (resS e v) = 0 ∧ numI (resS e v) = v := by
  have h1 : resS e v = Lib.itoa v := by unfold resS; rw [if_pos he, if_neg (by omega)]
  have h2 : resE e v = 0 := by unfold resE; rw [if_pos he, if_neg (by omega)]
  obtain ⟨f1, f2⟩ := itoa_facts v
  rw [h1]
  exact ⟨rfl, h2, by rw [f1, if_neg (by omega)], f2⟩

theorem res_is {e v : Int} {s : List UInt8} (he : e = 0) (hs : chk s = 0) (hv : v = numI s) : resS e v = s ∧ resE e v = 0 := by
  obtain ⟨i1, i2⟩ := itoa_numI hs
  obtain ⟨r1, r2, -⟩ := res_val he (v := v) (by rw [hv]; exact i2)
  exact ⟨by rw [r1, hv, i1], r2⟩

theorem right_short {s : List UInt8} (h : chk s = 0) : Short s := by
  obtain ⟨d1, d2, d3, d4⟩ := chk_ok h
  unfold Short
  have : s.length ≤ (trimPre s [45]).length + 1 := by
    unfold trimPre; split
    · rw [List.length_drop, show ([45] : List UInt8).length = 1 from rfl]; omega
    · omega
  omega

/-- Texts that are not right. -/
def badTexts : List (List UInt8) := [[45, 48], [48, 48, 55], [43, 49], [], [45]]

theorem bad_short (k : Nat) : Short (nth .str badTexts (k : Int)) := by
  have e : nth .str badTexts (k : Int) = badTexts.getD k [] := rfl
  rw [e]
  by_cases h : k < badTexts.length
  · have hm := getD_mem (d := []) h
    have : ∀ s ∈ badTexts, s.length ≤ 10 := by decide
    have := this _ hm
    unfold Short; omega
  · rw [List.getD_eq_getElem?_getD, List.getElem?_eq_none (by omega)]; show (0 : Nat) < 70368744177664; decide

theorem bad_chk {k : Nat} (h : k < 5) : chk (nth .str badTexts (k : Int)) = 5 := by
  have e : nth .str badTexts (k : Int) = badTexts.getD k [] := rfl
  rw [e]
  have : ∀ s ∈ badTexts, chk s = 5 := by decide
  exact this _ (getD_mem (d := []) h)

end Go.Cm
end

section
/- Known answers. No program is in sight here. -/
namespace Go.Cm
open Go.Proofs

theorem ndig_gt {n : Int} (h : 10 ^ 2000 ≤ n.natAbs) : 2000 < ndig n := by
  have e := pow10_split n.natAbs 2000
  have hpos : 0 < n.natAbs / 10 ^ 2000 := pow10_div _ 2000 h
  have hl := decDigits_len (u := n.natAbs % 10 ^ 2000) (k := 2000) (v := n.natAbs / 10 ^ 2000) hpos (pow10_mod n.natAbs 2000)
  rw [← e] at hl
  have h3 := (dec_digits (n.natAbs / 10 ^ 2000)).2.2.1
  have h4 : 0 < (Lib.decDigits (n.natAbs / 10 ^ 2000)).length := List.length_pos_iff.2 h3
  rw [ndig_itoa, hl]
  generalize (Lib.decDigits (n.natAbs / 10 ^ 2000)).length = z at h4
  omega

theorem ndig_small {n : Int} (h : n.natAbs < 10 ^ 2000) : ndig n ≤ 2000 := ndig_le (k := 2000) (by decide) h

theorem run_some (x : Int) (hx : x ≠ 0) : ∀ (k : Nat) (p : Int), (p * x ^ k).natAbs < 10 ^ 2000 → powRun x k p = some (p * x ^ k)
  | 0, p, _ => by rw [powRun, Int.pow_zero, Int.mul_one]
  | k + 1, p, h => by
    have e : p * x ^ (k + 1) = p * x * x ^ k := by rw [Int.pow_succ, Int.mul_comm (x ^ k), Int.mul_assoc]
    rw [e] at h ⊢
    have h1 : (p * x).natAbs ≤ (p * x * x ^ k).natAbs := by
      rw [Int.natAbs_mul (p * x)]
      exact Nat.le_mul_of_pos_right _ (Int.natAbs_pos.2 (Int.pow_ne_zero hx))
    rw [powRun, if_pos (ndig_small (Nat.lt_of_le_of_lt h1 h))]
    exact run_some x hx k _ h

theorem run_none (x : Int) : ∀ (k : Nat) (p : Int), p.natAbs < 10 ^ 2000 → 10 ^ 2000 ≤ (p * x ^ k).natAbs → powRun x k p = none
  | 0, p, h0, h => by rw [Int.pow_zero, Int.mul_one] at h; exact absurd h0 (Nat.not_lt.2 h)
  | k + 1, p, h0, h => by
    have e : p * x ^ (k + 1) = p * x * x ^ k := by rw [Int.pow_succ, Int.mul_comm (x ^ k), Int.mul_assoc]
    rw [e] at h
    rw [powRun]
    split
    · rename_i hd
      refine run_none x k _ ?_ h
      by_cases hc : (p * x).natAbs < 10 ^ 2000
      · exact hc
      · exfalso
        have := ndig_gt (n := p * x) (Nat.not_lt.1 hc)
        omega
    · rfl

/-- A power that is not too long. -/
theorem pow_is {s t : List UInt8} {n : Int} {k : Nat} (hs : chk s = 0) (hn : 0 ≤ n ∧ n ≤ 10000) (hk : powN (numI s) n = (k : Int)) (hx : numI s ≠ 0 ∨ k ≤ 1) (hv : (numI s) ^ k = numI t) (ht : chk t = 0) : powV s n = t ∧ powE s n = 0 := by
  have hr : powRun (numI s) k 1 = some (numI t) := by
    have hb := numI_abs ht
    by_cases h0 : numI s = 0
    · match k, hx.resolve_left (fun h => h h0), hv with
      | 0, _, hv => rw [powRun, ← hv, Int.pow_zero]
      | 1, _, hv =>
        rw [powRun, h0]
        have e : (1 : Int) * 0 = 0 := rfl
        rw [e, if_pos (by rw [ndig_zero]; decide), powRun, ← hv, h0]; simp
    · have := run_some (numI s) h0 k 1 (by rw [Int.one_mul, hv]; exact hb)
      rw [this, Int.one_mul, hv]
  have he : powE s n = 0 := by
    unfold powE
    rw [if_neg (fun h => h hs), if_neg (by omega), hk, Int.toNat_natCast, hr]
  refine ⟨?_, he⟩
  unfold powV
  rw [if_pos he, hk, Int.toNat_natCast, hr]
  exact (itoa_numI ht).1

/-- A power that is too long. -/
theorem pow_too {s : List UInt8} {n : Int} {k : Nat} (hs : chk s = 0) (hn : 0 ≤ n ∧ n ≤ 10000) (hk : powN (numI s) n = (k : Int)) (hv : 10 ^ 2000 ≤ ((numI s) ^ k).natAbs) : powV s n = [] ∧ powE s n = 6 := by
  have hr : powRun (numI s) k 1 = none := run_none _ k 1 (pow10_gt 2000 (by decide)) (by rw [Int.one_mul]; exact hv)
  have he : powE s n = 6 := by
    unfold powE
    rw [if_neg (fun h => h hs), if_neg (by omega), hk, Int.toNat_natCast, hr]
  refine ⟨?_, he⟩
  unfold powV
  rw [he]; rfl

theorem pow_err {s : List UInt8} {n : Int} (hs : chk s = 0) (hn : n < 0 ∨ 10000 < n) : powV s n = [] ∧ powE s n = 2 :=
  ⟨(pow_out hs hn).1.symm, (pow_out hs hn).2.symm⟩

theorem div_is {a b q r : List UInt8} (ha : chk a = 0) (hb : chk b = 0) (h0 : numI b ≠ 0) (hq : floorQ (numI a) (numI b) = numI q) (hr : floorR (numI a) (numI b) = numI r) (cq : chk q = 0) (cr : chk r = 0) :
    divV1 a b = q ∧ divV2 a b = r ∧ divVE a b = 0 := by
  have e : divVE a b = 0 := by unfold divVE; rw [if_pos (chkAll_two ha hb), if_neg h0]
  unfold divV1 divV2
  rw [if_pos e, if_pos e, hq, hr]
  exact ⟨(itoa_numI cq).1, (itoa_numI cr).1, e⟩

end Go.Cm
end

section
/- What 'works' asks. No program is in sight here. -/
namespace Go.Cm
open Go.Proofs

theorem wk1 : resS (chkAll [[57, 57, 57], [49]]) (numI [57, 57, 57] + numI [49]) = [49, 48, 48, 48] ∧ resE (chkAll [[57, 57, 57], [49]]) (numI [57, 57, 57] + numI [49]) = 0 := res_is (by decide) (by decide) (by decide)
theorem wk2 : resS (chkAll [[49], [49, 48, 48, 48]]) (numI [49] - numI [49, 48, 48, 48]) = [45, 57, 57, 57] ∧ resE (chkAll [[49], [49, 48, 48, 48]]) (numI [49] - numI [49, 48, 48, 48]) = 0 := res_is (by decide) (by decide) (by decide)
theorem wk3 : resS (chkAll [[45, 49, 50], [49, 50]]) (numI [45, 49, 50] * numI [49, 50]) = [45, 49, 52, 52] ∧ resE (chkAll [[45, 49, 50], [49, 50]]) (numI [45, 49, 50] * numI [49, 50]) = 0 := res_is (by decide) (by decide) (by decide)
theorem gcd_lit {a b : List UInt8} {x y g : Nat} (hx : (numI a).natAbs = x) (hy : (numI b).natAbs = y) (hg : Nat.gcd x y = g) : gcdI (numI a) (numI b) = (g : Int) := by unfold gcdI; rw [hx, hy, hg]
theorem wk4 : resS (chkAll [[49, 50], [45, 49, 56]]) (gcdI (numI [49, 50]) (numI [45, 49, 56])) = [54] ∧ resE (chkAll [[49, 50], [45, 49, 56]]) (gcdI (numI [49, 50]) (numI [45, 49, 56])) = 0 :=
  res_is (by decide) (by decide) ((gcd_lit (x := 12) (y := 18) (g := 6) (by decide) (by decide) (by rfl)).trans (by decide))
theorem wk5 : resS (chkAll [[48], [53]]) (gcdI (numI [48]) (numI [53])) = [53] ∧ resE (chkAll [[48], [53]]) (gcdI (numI [48]) (numI [53])) = 0 :=
  res_is (by decide) (by decide) ((gcd_lit (x := 0) (y := 5) (g := 5) (by decide) (by decide) (by rfl)).trans (by decide))
theorem wk6 : resS (chkAll [[48], [48]]) (gcdI (numI [48]) (numI [48])) = [48] ∧ resE (chkAll [[48], [48]]) (gcdI (numI [48]) (numI [48])) = 0 :=
  res_is (by decide) (by decide) ((gcd_lit (x := 0) (y := 0) (g := 0) (by decide) (by decide) (by rfl)).trans (by decide))
theorem wk7 : powV [45, 50] 10 = [49, 48, 50, 52] ∧ powE [45, 50] 10 = 0 :=
  pow_is (k := 10) (by decide) (by omega) (by decide) (.inl (by decide)) (by rw [show numI [45, 50] = -2 by decide, show numI [49, 48, 50, 52] = 1024 by decide]; rfl) (by decide)
theorem wk8 : powV [48] 0 = [49] ∧ powE [48] 0 = 0 :=
  pow_is (k := 0) (by decide) (by omega) (by decide) (.inr (by decide)) (by rw [Int.pow_zero]; decide) (by decide)
theorem wk9 : powV [49, 48] 2000 = [] ∧ powE [49, 48] 2000 = 6 :=
  pow_too (k := 2000) (by decide) (by omega) (by unfold powN; rw [if_neg (by decide)]; rfl) (by rw [Int.natAbs_pow, show (numI [49, 48]).natAbs = 10 by decide]; exact Nat.le_refl _)
theorem wk10 : powV [50] (-1) = [] ∧ powE [50] (-1) = 2 := pow_err (by decide) (.inl (by omega))
theorem wk11 : divV1 [55] [50] = [51] ∧ divV2 [55] [50] = [49] ∧ divVE [55] [50] = 0 := div_is (by decide) (by decide) (by decide) (by decide) (by decide) (by decide) (by decide)
theorem wk12 : divV1 [45, 55] [50] = [45, 52] ∧ divV2 [45, 55] [50] = [49] ∧ divVE [45, 55] [50] = 0 := div_is (by decide) (by decide) (by decide) (by decide) (by decide) (by decide) (by decide)
theorem wk13 : divV1 [55] [45, 50] = [45, 52] ∧ divV2 [55] [45, 50] = [45, 49] ∧ divVE [55] [45, 50] = 0 := div_is (by decide) (by decide) (by decide) (by decide) (by decide) (by decide) (by decide)
theorem wk14 : divV1 [45, 55] [45, 50] = [51] ∧ divV2 [45, 55] [45, 50] = [45, 49] ∧ divVE [45, 55] [45, 50] = 0 := div_is (by decide) (by decide) (by decide) (by decide) (by decide) (by decide) (by decide)
theorem wk15 : intV [57, 50, 50, 51, 51, 55, 50, 48, 51, 54, 56, 53, 52, 55, 55, 53, 56, 48, 55] = 9223372036854775807 ∧ intE [57, 50, 50, 51, 51, 55, 50, 48, 51, 54, 56, 53, 52, 55, 55, 53, 56, 48, 55] = 0 ∧ intE [57, 50, 50, 51, 51, 55, 50, 48, 51, 54, 56, 53, 52, 55, 55, 53, 56, 48, 56] = 6 := by decide
theorem wk16 : divVE [49] [48] = 2 ∧ cmpV [45, 53] [51] = -1 ∧ chkAll [[45, 53], [51]] = 0 := by decide

end Go.Cm
end

section
/- The laws: what holds for right texts. No program is in sight here. -/
namespace Go.Cm
open Go.Proofs

/-- A right text of an integer. -/
structure OKT (s : List UInt8) (v : Int) : Prop where
  c : chk s = 0
  v : numI s = v

/-- An integer of so many digits. -/
def Bnd (v : Int) (k : Nat) : Prop := v.natAbs < 10 ^ k

theorem Bnd.add {a b : Int} {k : Nat} (ha : Bnd a k) (hb : Bnd b k) : Bnd (a + b) (k + 1) := by
  unfold Bnd at *
  rw [Nat.pow_succ]
  omega

theorem Bnd.sub {a b : Int} {k : Nat} (ha : Bnd a k) (hb : Bnd b k) : Bnd (a - b) (k + 1) := by
  unfold Bnd at *
  rw [Nat.pow_succ]
  omega

theorem Bnd.mul {a b : Int} {k l : Nat} (ha : Bnd a k) (hb : Bnd b l) : Bnd (a * b) (k + l) := by
  unfold Bnd at *
  rw [Int.natAbs_mul, Nat.pow_add]
  exact Nat.mul_lt_mul_of_lt_of_le ha (Nat.le_of_lt hb) (Nat.pow_pos (by decide))

theorem Bnd.mono {a : Int} {k l : Nat} (ha : Bnd a k) (h : k ≤ l) : Bnd a l := Nat.lt_of_lt_of_le ha (Nat.pow_le_pow_right (by decide) h)

theorem Bnd.digs {a : Int} {k : Nat} (ha : Bnd a k) (h : k ≤ 2000) : ndig a ≤ 2000 := ndig_small (Nat.lt_of_lt_of_le ha (pow10_mono k 2000 h))

theorem OKT.short {s : List UInt8} {v : Int} (h : OKT s v) : Short s := right_short h.c

theorem OKT.res {a b : List UInt8} {x y : Int} (ha : OKT a x) (hb : OKT b y) {v : Int} {k : Nat} (hv : Bnd v k) (hk : k ≤ 2000) : OKT (resS (chkAll [a, b]) v) v ∧ resE (chkAll [a, b]) v = 0 := by
  obtain ⟨r1, r2, r3, r4⟩ := res_val (chkAll_two ha.c hb.c) (hv.digs hk)
  exact ⟨⟨r3, r4⟩, r2⟩

theorem OKT.is {a b s : List UInt8} {x y w : Int} (ha : OKT a x) (hb : OKT b y) (hs : OKT s w) {v : Int} (hv : v = w) : resS (chkAll [a, b]) v = s ∧ resE (chkAll [a, b]) v = 0 :=
  res_is (chkAll_two ha.c hb.c) hs.c (by rw [hv, hs.v])

theorem OKT.eq {a b : List UInt8} {x y : Int} (ha : OKT a x) (hb : OKT b y) : x = y ↔ a = b := by
  constructor
  · intro h
    rw [← (itoa_numI ha.c).1, ← (itoa_numI hb.c).1, ha.v, hb.v, h]
  · rintro rfl; rw [← ha.v, ← hb.v]

theorem dtext_okt {d : Bool × List Int × Int} (h : DOK d) : ∃ v, OKT (dtext d) v ∧ Bnd v 240 := ⟨numI (dtext d), ⟨(dtext_ok h).1, rfl⟩, (dtext_ok h).2⟩

def Three (a b c : List UInt8) : Prop := ∃ x y w : Int, (OKT a x ∧ Bnd x 240) ∧ (OKT b y ∧ Bnd y 240) ∧ (OKT c w ∧ Bnd w 240)
theorem three_ok {a b c : Bool × List Int × Int} (ha : DOK a) (hb : DOK b) (hc : DOK c) : Three (dtext a) (dtext b) (dtext c) := by
  obtain ⟨x, hx⟩ := dtext_okt ha
  obtain ⟨y, hy⟩ := dtext_okt hb
  obtain ⟨w, hw⟩ := dtext_okt hc
  exact ⟨x, y, w, hx, hy, hw⟩
def Two (a b : List UInt8) : Prop := ∃ x y : Int, (OKT a x ∧ Bnd x 240) ∧ (OKT b y ∧ Bnd y 240)
theorem two_ok {a b : Bool × List Int × Int} (ha : DOK a) (hb : DOK b) : Two (dtext a) (dtext b) := by
  obtain ⟨x, hx⟩ := dtext_okt ha
  obtain ⟨y, hy⟩ := dtext_okt hb
  exact ⟨x, y, hx, hy⟩

end Go.Cm
end

section
/- The law of division. No program is in sight here. -/
namespace Go.Cm
open Go.Proofs

theorem okt0 : OKT [48] 0 := ⟨by decide, by decide⟩
theorem okt1 : OKT [49] 1 := ⟨by decide, by decide⟩

theorem floorQ_bnd {x y : Int} {k : Nat} (hx : Bnd x k) : Bnd (floorQ x y) (k + 1) := by
  have key : ∀ a b : Int, 0 < b → (a / b).natAbs ≤ a.natAbs + 1 := by
    intro a b h
    have h0 := Int.emod_add_mul_ediv a b
    have h1 := Int.emod_nonneg a (show b ≠ 0 by omega)
    have h2 := Int.emod_lt_of_pos a h
    by_cases hp : 0 ≤ a
    · have h3 := Int.ediv_le_self b hp
      have h4 : 0 ≤ a / b := Int.ediv_nonneg hp (by omega)
      omega
    · have h3 : -a.natAbs - 1 ≤ a / b := (Int.le_ediv_iff_mul_le h).2 (by
        have h4 : (-(a.natAbs : Int) - 1) * b ≤ (-(a.natAbs : Int) - 1) * 1 := Int.mul_le_mul_of_nonpos_left (by omega) (by omega)
        omega)
      have h4 : a / b < 0 := Int.ediv_neg_of_neg_of_pos (by omega) h
      omega
  unfold Bnd at *
  rw [Nat.pow_succ]
  have hpos : 0 < 10 ^ k := Nat.pow_pos (by decide)
  unfold floorQ
  split
  · rename_i h
    have := key x y h
    omega
  · by_cases hy : y = 0
    · subst hy
      have e : (-x) / (-0) = 0 := by simp
      rw [e]; simp; omega
    · have := key (-x) (-y) (by omega)
      omega

theorem floorR_bnd {x y : Int} {k : Nat} (hy : Bnd y k) (h0 : y ≠ 0) : Bnd (floorR x y) k := by
  obtain ⟨f1, f2, f3⟩ := floor_facts (x := x) h0
  unfold Bnd at *
  by_cases h : 0 < y
  · have := f2 h; omega
  · have := f3 (by omega); omega

theorem okt_itoa {v : Int} {k : Nat} (h : Bnd v k) (hk : k ≤ 2000) : OKT (Lib.itoa v) v := by
  obtain ⟨f1, f2⟩ := itoa_facts v
  have := h.digs hk
  exact ⟨by rw [f1, if_neg (by omega)], f2⟩

/-- What a division answers. -/
def DivT (x y : Int) (q r : List UInt8) (e : Int) : Prop := (y = 0 → e = 2) ∧ (y ≠ 0 → e = 0 ∧ OKT q (floorQ x y) ∧ OKT r (floorR x y))

theorem divT_okt {a b : List UInt8} {x y : Int} (ha : OKT a x) (hb : OKT b y) {k : Nat} (hx : Bnd x k) (hy : Bnd y k) (hk : k + 1 ≤ 2000) : DivT x y (divV1 a b) (divV2 a b) (divVE a b) := by
  have hc := chkAll_two ha.c hb.c
  refine ⟨fun h => ?_, fun h => ?_⟩
  · unfold divVE; rw [if_pos hc, if_pos (by rw [hb.v, h])]
  · have e : divVE a b = 0 := by unfold divVE; rw [if_pos hc, if_neg (by rw [hb.v]; exact h)]
    refine ⟨e, ?_, ?_⟩
    · unfold divV1; rw [if_pos e, ha.v, hb.v]; exact okt_itoa (floorQ_bnd hx) hk
    · unfold divV2; rw [if_pos e, ha.v, hb.v]; exact okt_itoa (floorR_bnd hy h) (by omega)

theorem cmp_okt {a b : List UInt8} {x y : Int} (ha : OKT a x) (hb : OKT b y) : cmpV a b = cmpI x y ∧ chkAll [a, b] = 0 := by
  have hc := chkAll_two ha.c hb.c
  unfold cmpV
  rw [if_pos hc, ha.v, hb.v]; exact ⟨rfl, hc⟩

theorem floor_mul_bnd {x y : Int} {k : Nat} (hx : Bnd x k) (hy : Bnd y k) (h0 : y ≠ 0) : Bnd (floorQ x y * y) (k + 1) := by
  obtain ⟨f1, -⟩ := floor_facts (x := x) h0
  have : floorQ x y * y = x - floorR x y := by rw [Int.mul_comm]; omega
  rw [this]; exact hx.sub (floorR_bnd hy h0)

theorem floor_signs {x y : Int} (h0 : y ≠ 0) : (cmpI (floorR x y) 0 = 0 ∨ cmpI (floorR x y) 0 = cmpI y 0) ∧ cmpI (floorR x y - y) 0 = - cmpI y 0 := by
  obtain ⟨f1, f2, f3⟩ := floor_facts (x := x) h0
  by_cases h : 0 < y
  · obtain ⟨g1, g2⟩ := f2 h
    rw [cmpI_gt h, cmpI_lt (show floorR x y - y < 0 by omega)]
    refine ⟨?_, rfl⟩
    by_cases hr : floorR x y = 0
    · left; rw [hr]; exact cmpI_self 0
    · right; exact cmpI_gt (by omega)
  · have h' : y < 0 := by omega
    obtain ⟨g1, g2⟩ := f3 h'
    rw [cmpI_lt h', cmpI_gt (show 0 < floorR x y - y by omega)]
    refine ⟨?_, rfl⟩
    by_cases hr : floorR x y = 0
    · left; rw [hr]; exact cmpI_self 0
    · right; exact cmpI_lt (by omega)

theorem cmpI_range (a b : Int) : -1 ≤ cmpI a b ∧ cmpI a b ≤ 1 := by
  unfold cmpI; split
  · omega
  · split <;> omega

theorem sign_fin {x y c14 c16 c18 : Int} (h0 : y ≠ 0) (k14 : c14 = cmpI (floorR x y) 0) (k16 : c16 = cmpI (floorR x y - y) 0) (k18 : c18 = cmpI y 0) :
    ((c14 == 0 || c14 == c18) && c16 == IntKind.i64.wrap (0 - c18)) = true := by
  obtain ⟨s1, s2⟩ := floor_signs (x := x) h0
  have hr := cmpI_range y 0
  rw [← k14, ← k18] at s1
  rw [← k16, ← k18] at s2
  rw [← k18] at hr
  rw [wi (by omega) (by omega), Bool.and_eq_true, Bool.or_eq_true, beq_iff_eq, beq_iff_eq, beq_iff_eq]
  exact ⟨s1, by omega⟩

end Go.Cm
end

section
/- The law of common divisors. No program is in sight here. -/
namespace Go.Cm
open Go.Proofs

theorem okt_abs {s : List UInt8} {v : Int} (h : OKT s v) : OKT (trimPre s [45]) (v.natAbs : Int) := by
  obtain ⟨c1, c2, c3, c4⟩ := chk_ok h.c
  obtain ⟨p1, p2⟩ := hasPre_dig c1
  have hne : trimPre s [45] ≠ [] := by intro e; rw [e] at c2; simp at c2
  have h0 : (trimPre s [45]).getD 0 0 ≠ 48 ∨ trimPre s [45] = [48] := by
    by_cases h48 : s = [48]
    · right; rw [h48]; decide
    · exact .inl (c4 h48)
  refine ⟨by rw [chk_digits p2 c1 hne h0, if_neg (by omega)], ?_⟩
  have e : (numI s).natAbs = numOf (trimPre s [45]) := by unfold numI; split <;> omega
  rw [← h.v, e]
  show numI (trimPre s [45]) = _
  unfold numI; rw [if_neg (by rw [p1]; decide), p2]

theorem gcd_bnd {x y : Int} {k : Nat} (hx : Bnd x k) (hy : Bnd y k) : Bnd (gcdI x y) k := by
  unfold Bnd at *
  unfold gcdI
  rw [Int.natAbs_natCast]
  by_cases h0 : x.natAbs = 0
  · rw [h0, Nat.gcd_zero_left]; exact hy
  · exact Nat.lt_of_le_of_lt (Nat.gcd_le_left _ (by omega)) hx

theorem gcd_scale (x y w : Int) : gcdI (x * w) (y * w) = gcdI x y * (w.natAbs : Int) := by
  unfold gcdI
  rw [Int.natAbs_mul, Int.natAbs_mul, Nat.gcd_mul_right, Int.natCast_mul]

theorem gcd_zero {x y : Int} (h : gcdI x y = 0) : x = 0 ∧ y = 0 := by
  unfold gcdI at h
  have h' : Nat.gcd x.natAbs y.natAbs = 0 := by omega
  obtain ⟨h1, h2⟩ := Nat.gcd_eq_zero_iff.1 h'
  omega

theorem gcd_parts {x y : Int} (h : gcdI x y ≠ 0) : floorR x (gcdI x y) = 0 ∧ floorR y (gcdI x y) = 0 ∧ gcdI (floorQ x (gcdI x y)) (floorQ y (gcdI x y)) = 1 := by
  have hpos : 0 < Nat.gcd x.natAbs y.natAbs := by
    unfold gcdI at h; omega
  have hg : gcdI x y = (Nat.gcd x.natAbs y.natAbs : Int) := rfl
  have hp : 0 < gcdI x y := by rw [hg]; omega
  have dx : gcdI x y ∣ x := by
    exact Int.natAbs_dvd_natAbs.1 (by rw [hg, Int.natAbs_natCast]; exact Nat.gcd_dvd_left _ _)
  have dy : gcdI x y ∣ y := by
    exact Int.natAbs_dvd_natAbs.1 (by rw [hg, Int.natAbs_natCast]; exact Nat.gcd_dvd_right _ _)
  have q1 : ∀ z, gcdI x y ∣ z → floorR z (gcdI x y) = 0 ∧ floorQ z (gcdI x y) = z / gcdI x y := by
    intro z hz
    have e : floorQ z (gcdI x y) = z / gcdI x y := by unfold floorQ; rw [if_pos hp]
    refine ⟨?_, e⟩
    unfold floorR
    rw [e, Int.mul_ediv_cancel' hz]; omega
  obtain ⟨a1, a2⟩ := q1 x dx
  obtain ⟨b1, b2⟩ := q1 y dy
  refine ⟨a1, b1, ?_⟩
  rw [a2, b2]
  have hn : ∀ z, gcdI x y ∣ z → (z / gcdI x y).natAbs = z.natAbs / Nat.gcd x.natAbs y.natAbs := by
    intro z hz
    rw [Int.natAbs_ediv_of_dvd hz, hg, Int.natAbs_natCast]
  unfold gcdI at hn ⊢
  rw [hn x dx, hn y dy, Nat.gcd_div (Nat.gcd_dvd_left _ _) (Nat.gcd_dvd_right _ _), Nat.div_self hpos]
  rfl

end Go.Cm
end

section
/- Scopes; ranges over functions. -/
namespace Go.Cm
open Go.RowKit

section
variable {F : Fence} {n : Nat} {P : Program} {Q : Exit → Act → World → Prop} {a : Act} {w : World}
theorem stepR_scope {b : Frame} {k : List Item} {cs : List Frame} {c : Code} : step P (lone (b.atR a (.code (.scope c) :: k)) cs w) = .next (lone (b.atR a (.code c :: .inScope c :: k)) cs w) :=
  step_lone_go (by simp [stepG, stepG.exec, Frame.atR])
theorem stepR_inScope {b : Frame} {k : List Item} {cs : List Frame} {c : Code} : step P (lone (b.atR a (.inScope c :: k)) cs w) = .next (lone (b.atR a k) cs w) :=
  step_lone_go (by simp [stepG, stepG.exec, Frame.atR])

theorem wpIn_scope {c : Code} (h : c.wpIn F n P (Exit.noGoto Q) a w) : (Code.scope c).wpIn F n P Q a w := by
  intro b k cs hro hb hr
  have h0 : (lone (b.atR a (.code (.scope c) :: k)) cs w).fenced P F := fenced_calm hb hr rfl
  obtain ⟨e, a₁, w₁, hq, harr⟩ := h b (.inScope c :: k) cs hro hb hr
  cases e with
  | normal => exact ⟨.normal, a₁, w₁, hq, .head h0 stepR_scope (StepsIn.trans harr (.one (fenced_calm hb hr rfl) stepR_inScope))⟩
  | exit id => exact ⟨.exit id, a₁, w₁, hq, fun k' hk => .head h0 stepR_scope (harr.1 k' (by simp [exitTo, hk])), fun hr' hk => by
      obtain ⟨k₁, h1, h2⟩ := harr.2 hr' (by simp [exitTo, hk])
      exact ⟨k₁, h1, .head h0 stepR_scope h2⟩⟩
  | goto l => exact hq.elim
  | ret => exact ⟨_, a₁, w₁, hq, .of_steps (.one h0 stepR_scope) harr⟩
  | panic ch => exact ⟨_, a₁, w₁, hq, .of_steps (.one h0 stepR_scope) harr⟩
  | outgrown => exact ⟨_, a₁, w₁, hq, .of_steps (.one h0 stepR_scope) harr⟩
end

def scopeK (K : Exit → AState → Prop) (e : Exit) (s : AState) : Prop := match e with
  | .goto _ => False
  | e => K e s

section
variable {X : Cx} {s : AState} {K : Exit → AState → Prop}
theorem j_scope {c : Code} (h : J X c s (scopeK K)) : J X (.scope c) s K := fun a w hst => by
  refine wpIn_scope (Code.wpIn_mono (fun e a w ⟨s', h1, h2⟩ => ?_) (h a w hst))
  cases e with
  | goto l => exact h1.elim
  | _ => exact ⟨s', h1, h2⟩
theorem k_scope (h : K .normal s) : scopeK K .normal s := h
theorem k_scope_exit {i : Nat} (h : K (.exit i) s) : scopeK K (.exit i) s := h
theorem k_scope_ret (h : K .ret s) : scopeK K .ret s := h
end

/-! ### Moves alone -/
def movesL : List Oper → Option (List (Nat × Operand))
  | [] => some []
  | o :: r => match o.guard, o.dst, o.op, movesL r with
    | none, some d, .assign x, some l => some ((d, x) :: l)
    | none, some d, .move x, some l => some ((d, x) :: l)
    | _, _, _, _ => none
def movesOf : Code → Option (List (Nat × Operand))
  | .skip => some []
  | .region _ ops false => movesL ops.toList
  | .seq x y => match movesOf x, movesOf y with
    | some l, some m => some (l ++ m)
    | _, _ => none
  | _ => none
def runMoves (a : Act) : List (Nat × Operand) → Act
  | [] => a
  | (d, x) :: r => runMoves (a.put (some d) (a.eval x)) r

theorem runMoves_append (m : List (Nat × Operand)) : ∀ (l : List (Nat × Operand)) (a : Act), runMoves a (l ++ m) = runMoves (runMoves a l) m
  | [], _ => rfl
  | (d, x) :: l, a => runMoves_append m l _

theorem runMoves_defers : ∀ (l : List (Nat × Operand)) (a : Act), (runMoves a l).defers = a.defers
  | [], _ => rfl
  | (d, x) :: l, a => by rw [runMoves, runMoves_defers l, Act.defers_put]

theorem runMoves_size : ∀ (l : List (Nat × Operand)) (a : Act), (runMoves a l).tmps.size = a.tmps.size
  | [], _ => rfl
  | (d, x) :: l, a => by rw [runMoves, runMoves_size l, Act.size_put]

theorem runMoves_kept {t : Nat} : ∀ (l : List (Nat × Operand)) (a : Act), t ∉ l.map Prod.fst → (runMoves a l).tmps.getD t undef = a.tmps.getD t undef
  | [], _, _ => rfl
  | (d, x) :: l, a, h => by
    simp only [List.map_cons, List.mem_cons, not_or] at h
    rw [runMoves, runMoves_kept l _ h.2, Act.getD_put_ne h.1]

theorem movesL_wp {r : Option Nat} {n : Nat} {P : Program} {ops : Array Oper} {Q : Exit → Act → World → Prop} {w : World} : ∀ (l : List Oper) {ms : List (Nat × Operand)} {a : Act}, movesL l = some ms → Q .normal (runMoves a ms) w → wpListIn (fw r) n P ops Q l a w
  | [], ms, a, h, hq => by cases h; exact hq
  | o :: l, ms, a, h, hq => by
    simp only [movesL] at h
    have key : ∀ d x m, o.guard = none → o.dst = some d → (o.op = .assign x ∨ o.op = .move x) → movesL l = some m → ms = (d, x) :: m → wpListIn (fw r) n P ops Q (o :: l) a w := by
      intro d x m h1 h2 h3 h4 h5
      subst h5
      have hw : Region.wanted o (yielded ops a.tmps) = true := by simp [Region.wanted, h1]
      simp only [wpListIn, hw, if_true]
      refine wp_of_value (v := a.eval x) (w' := w) ?_ ?_
      · unfold execOp
        rcases h3 with h3 | h3 <;> rw [h3] <;> rfl
      · rw [h2]; exact movesL_wp l h4 hq
    split at h
    · rename_i d x m h1 h2 h3 h4; cases h; exact key d x m h1 h2 (.inl h3) h4 rfl
    · rename_i d x m h1 h2 h3 h4; cases h; exact key d x m h1 h2 (.inr h3) h4 rfl
    · cases h

theorem movesOf_wp {r : Option Nat} {n : Nat} {P : Program} : ∀ (c : Code) {ms : List (Nat × Operand)} {K : Act → World → Prop} {R : Exit → Act → World → Prop} {a : Act} {w : World}, movesOf c = some ms → K (runMoves a ms) w → c.wpIn (fw r) n P (Exit.then K R) a w := by
  intro c
  induction c with
  | skip => intro ms K R a w h hk; cases h; exact wpIn_skip hk
  | region id ops draw =>
    intro ms K R a w h hk
    cases draw with
    | true => simp [movesOf] at h
    | false => exact wpIn_region_list (movesL_wp _ h hk)
  | seq x y ihx ihy =>
    intro ms K R a w h hk
    simp only [movesOf] at h
    split at h
    · rename_i l m hl hm
      cases h
      rw [runMoves_append] at hk
      exact wpIn_seq (ihx hl (ihy hm hk))
    · cases h
  | _ => intro ms K R a w h hk; simp [movesOf] at h

def absMoves (N : Nat) (s : AState) : List (Nat × Operand) → Option AState
  | [] => some s
  | (d, x) :: r => match opnd s x with
    | some v => if d < N then absMoves N (s.put d v) r else none
    | none => none
def putAll (s : AState) : List (Nat × LV) → AState
  | [] => s
  | (p, v) :: r => putAll (s.put p (.l v)) r

theorem absMoves_ok {X : Cx} {w : World} {ρ : Nat → Value} : ∀ (ms : List (Nat × Operand)) {s s' : AState} {a : Act}, Fits X s a w ρ → a.tmps.size = X.T.N → absMoves X.T.N s ms = some s' → Fits X s' (runMoves a ms) w ρ
  | [], s, s', a, h, _, he => by cases he; exact h
  | (d, x) :: r, s, s', a, h, hs, he => by
    simp only [absMoves] at he
    split at he
    · rename_i v hv
      split at he
      · rename_i hd
        exact absMoves_ok r (h.put (d := d) (by omega) (opnd_ok h hv)) (by rw [Act.size_put, hs]) he
      · cases he
    · cases he

theorem putAll_ok {X : Cx} {w : World} {ρ : Nat → Value} {H : Nat → Prop} : ∀ (l : List (Nat × LV)) (vs : List Value) {s : AState} {a : Act}, Fits X s a w ρ → hot X.O ρ s.own = H → a.tmps.size = X.T.N → (∀ p ∈ l, p.1 < X.T.N) → All2 (RepL H w ρ) (l.map Prod.snd) vs →
    ∃ a', a' = { a with tmps := ((l.map Prod.fst).zip vs).foldl (fun (t : Array Value) (p : Nat × Value) => t.setIfInBounds p.1 p.2) a.tmps } ∧ Fits X (putAll s l) a' w ρ ∧ a'.tmps.size = X.T.N
  | [], [], s, a, h, _, hs, _, _ => ⟨a, rfl, h, hs⟩
  | (p, x) :: l, v :: vs, s, a, h, hH, hs, hl, h2 => by
    have hp := hl (p, x) (by simp)
    have h3 := h.put (d := p) (v := .l x) (val := v) (by simp only at hp; omega) (by rw [hH]; exact h2.1)
    obtain ⟨a', e, h4, h5⟩ := putAll_ok l vs h3 hH (by rw [Act.size_put, hs]) (fun q hq => hl q (by simp [hq])) h2.2
    exact ⟨a', by rw [e]; rfl, h4, h5⟩
  | [], _ :: _, _, _, _, _, _, _, h2 => h2.elim
  | _ :: _, [], _, _, _, _, _, _, h2 => h2.elim

theorem fold_kept {t : Nat} : ∀ (l : List (Nat × Value)) (tm : Array Value), t ∉ l.map Prod.fst → (l.foldl (fun (t : Array Value) (p : Nat × Value) => t.setIfInBounds p.1 p.2) tm).getD t undef = tm.getD t undef
  | [], _, _ => rfl
  | (p, v) :: l, tm, h => by
    simp only [List.map_cons, List.mem_cons, not_or] at h
    rw [List.foldl_cons, fold_kept l _ h.2]
    have : (tm.setIfInBounds p v)[t]? = tm[t]? := Array.getElem?_setIfInBounds_ne (Ne.symm h.1)
    simp only [Array.getD_eq_getD_getElem?, this]

/-! ### The iterator's contract -/
def LV.isZ : LV → Bool
  | .z _ _ => true
  | _ => false

def KpOf (H : Nat → Prop) (n : Nat) (A B : World) : Prop := ∀ b, b < n → ¬ H b → (∃ o : Obj, A.heap[b]? = some o ∧ o.isCells = true) → B.heap[b]? = A.heap[b]?

def SeqOf (P : Program) (gf : FuncId) (lb : Array Value) (enc : Nat → Array Value) (N : Nat) (Kp : World → World → Prop) (w : World) : Prop :=
  ∀ (l : Nat) (J : Nat → World → Prop) (Jx : World → Prop) (W : World), Below w.heap.size w W → AbidesFrom W.heap.size J → AbidesFrom W.heap.size (fun (_ : Unit) => Jx) →
    (∀ k W1, J k W1 → k < N → YieldAt (fw none) 0 P l (enc k) W1 fun e W' => (e = .returned (.bool true) ∧ J (k + 1) W' ∧ Kp W1 W') ∨ (e = .returned (.bool false) ∧ Jx W')) →
    J 0 W → CallsIn (fw none) 1 P gf (#[.func (.yield l) #[] #[]] ++ lb) W fun e W' => (∃ v, e = .returned v) ∧ (J N W' ∨ Jx W')

structure SeqValid (P : Program) (gf : FuncId) (m : Nat) (caps : List CV) (items : List (List LV)) : Prop where
  enters : ∀ args w, (callFunc gf args).run P w = .ok (.enter gf args) w
  data : ∀ it ∈ items, it.length = m ∧ it.all LV.isZ = true
  seq : ∀ (H : Nat → Prop) (w : World) (lb : List Value), (∀ b, H b → b < w.heap.size) → All2 (RepCV H w (fun _ => undef)) caps lb →
    ∃ enc : Nat → Array Value, (∀ k (hk : k < items.length), All2 (RepL H w (fun _ => undef)) items[k] (enc k).toList) ∧ SeqOf P gf lb.toArray enc items.length (KpOf H w.heap.size) w

/-- How a round of a range over a function may end. -/
def rangeK {ι : Type} (f : Nat → ι → AState) (Φ : Nat → ι → Prop) (ks : List Nat) (K : Exit → AState → Prop) (k : Nat) (e : Exit) (s : AState) : Prop := match e with
  | .normal => ∃ y, le s (f (k + 1) y) ∧ Φ (k + 1) y
  | .ret => ∃ z, le s z ∧ z.env.all (fun e => ks.contains e.1) = true ∧ K .ret z
  | .exit i => ∃ z, le s z ∧ z.env.all (fun e => ks.contains e.1) = true ∧ K (.exit i) z
  | _ => False

def jumpOK (K : Exit → AState → Prop) (z : AState) : Code → Prop
  | .ret => K .ret z
  | .exit i => K (.exit i) z
  | _ => False

theorem Fits.cells {X : Cx} {s : AState} {a : Act} {A B : World} {ρ : Nat → Value} (h : Fits X s a A ρ) (hk : ∀ k : Nat, (∃ o : Obj, A.heap[k]? = some o ∧ o.isCells = true) → B.heap[k]? = A.heap[k]?) : Fits X s a B ρ := by
  have hs : Stays (hot X.O ρ s.own) A B := fun b _ hb => hk b hb
  refine ⟨fun e he => ?_, fun p hp => (h.own p hp).move_id (fun _ _ h => h) hs (fun b hb => hk b ((h.own p hp).cells hb)), h.io, h.apart⟩
  have := RepV_map (f := id) (fun x v hx => RepL_move (fun _ _ h => h) hs (fun _ _ => rfl) hx) (h.env e he)
  have e2 : e.2.map id = e.2 := by cases e.2 <;> simp [AV.map]
  rwa [e2] at this

/-- What holds of the outer frame while rounds go on. -/
structure OutOK (X : Cx) (a : Act) (w : World) (H : Nat → Prop) (z : AState) (W : World) (ρ : Nat → Value) : Prop where
  fits : Fits X z a W ρ
  bel : Bel X.M X.w0 W
  own : ∀ p ∈ z.own, ∀ b, blk (ρ p.1) = some b → w.heap.size ≤ b ∨ H b
  keeps : KeepsOthers w W
  stays : Stays H w W

theorem OutOK.abide {X : Cx} {a : Act} {w : World} {H : Nat → Prop} {z : AState} {A B : World} {ρ : Nat → Value} (h : OutOK X a w H z A ρ) (hw : X.w0.heap.size ≤ w.heap.size) {row : Option Nat} (hg : A.grownBy B row) (hr : ∀ r, row = some r → w.heap.size ≤ r ∧ ∃ o : Obj, A.heap[r]? = some o ∧ o.isCells = false) : OutOK X a w H z B ρ := by
  refine ⟨h.fits.cells (fun k ⟨o, ho, hc⟩ => hg.block k (Array.getElem?_eq_some_iff.1 ho).1 (fun e => ?_)), ⟨hg.os.trans h.bel.os, hg.tape.trans h.bel.tape, hg.output.trans h.bel.output, Nat.le_trans h.bel.size hg.size, fun k hk hm => ?_⟩, h.own, ⟨Nat.le_trans h.keeps.size hg.size, fun k o hk ho => ?_⟩, fun b hb hc => ?_⟩
  · obtain ⟨_, o', ho', hc'⟩ := hr k e.symm
    rw [ho] at ho'; cases ho'; rw [hc] at hc'; cases hc'
  · have := h.bel.size
    rw [hg.block k (by omega) (fun e => by have := (hr k e.symm).1; omega)]
    exact h.bel.block k hk hm
  · have hlt := (Array.getElem?_eq_some_iff.1 hk).1
    have := h.keeps.size
    rw [hg.block k (by omega) (fun e => by have := (hr k e.symm).1; omega)]
    exact h.keeps.same k o hk ho
  · have h1 := h.stays b hb hc
    have hlt := cells_lt hc
    have := h.keeps.size
    rw [hg.block b (by omega) (fun e => by have := (hr b e.symm).1; omega)]
    exact h1

theorem OutOK.st {X : Cx} {a : Act} {w : World} {H : Nat → Prop} {z s : AState} {W : World} {ρ : Nat → Value} (h : OutOK X a w H z W ρ) (hst : St X s a w) (hD : W.heap[w.heap.size]? = some (.deferred (some []))) : St X z { a with defers := { target := .collected w.heap.size, args := #[] } :: a.defers } W := by
  refine ⟨⟨fun d hd => ?_, List.pairwise_cons.2 ⟨fun d hd e => ?_, hst.marks.apart⟩⟩, hst.kept, hst.size, h.bel, hst.others, hst.small, ρ, h.fits.env, h.fits.own, h.fits.io, h.fits.apart⟩
  · rcases List.mem_cons.1 hd with rfl | hd
    · exact ⟨_, rfl, hst.below.size, hD⟩
    · obtain ⟨D, h1, h2, h3⟩ := hst.marks.each d hd
      exact ⟨D, h1, h2, h.keeps.same _ _ h3 rfl⟩
  · obtain ⟨D, h1, h2, h3⟩ := hst.marks.each d hd
    rw [h1] at e
    have : w.heap.size = D := by injection e with e1 e2; injection e1
    have := (Array.getElem?_eq_some_iff.1 h3).1
    omega

theorem wpIn_fw {r : Option Nat} {n m : Nat} {P : Program} {c : Code} {Q : Exit → Act → World → Prop} {a : Act} {w : World} (h : c.wpIn (fw r) n P Q a w) : c.wpIn (fw r) m P Q a w :=
  fun b k cs h1 h2 _ => h b k cs h1 h2 (room_wide _)

end Go.Cm
end

section
/- Ranges over functions: the rule. -/
namespace Go.Cm
open Go.RowKit

theorem MGood.keep {P : Program} {T : Tab} (h : MGood P T) (ks : List Nat) : MGood P { T with keep := ks } :=
  ⟨⟨h.tab.types, h.tab.elems, h.tab.small⟩, ⟨h.cons.cons, h.cons.body⟩, h.mixed⟩

/-- Behind a round the outer frame is as it was. -/
theorem OutOK.back {X : Cx} {a : Act} {w : World} {H : Nat → Prop} {z : AState} {A B : World} {ρ : Nat → Value} {y : AState} {ks : List Nat} {a1 a3 : Act} {l : Nat} (h : OutOK X a w H y A ρ)
    (hkept : ∀ t ∈ ks, a1.tmps.getD t undef = a.tmps.getD t undef) (hz : z.env.all (fun e => ks.contains e.1) = true) {s : AState} (hle : le s z)
    (h3 : St { X with T := { X.T with keep := ks }, I := fun b => ∃ p ∈ y.own, blk (ρ p.1) = some b, w0 := A, r := some l, tm := fun t => a1.tmps.getD t undef } s a3 B) : ∃ ρ', OutOK X a w H z B ρ' ∧ KeepsOthers A B ∧ KpOf H w.heap.size A B := by
  obtain ⟨ρ3, hf3⟩ := h3.fits
  have hf4 := hf3.le hle
  have hko : KeepsOthers A B := KeepsOthers.of_bel h3.below (fun b hb hm => by
    rcases hm with hm | ⟨p, hp, hpb⟩
    · simp only at hm; omega
    · exact (h.fits.own p hp).cells hpb)
  have hM : ∀ b, Cx.M { X with T := { X.T with keep := ks }, I := fun b => ∃ p ∈ y.own, blk (ρ p.1) = some b, w0 := A, r := some l, tm := fun t => a1.tmps.getD t undef } b → X.M b := by
    rintro b (hb | ⟨p, hp, hpb⟩)
    · have := h.bel.size; simp only at hb; exact .inl (by omega)
    · exact ((h.fits.own p hp).lt hpb).1
  have hI : ∀ b, Cx.M { X with T := { X.T with keep := ks }, I := fun b => ∃ p ∈ y.own, blk (ρ p.1) = some b, w0 := A, r := some l, tm := fun t => a1.tmps.getD t undef } b → w.heap.size ≤ b ∨ H b := by
    rintro b (hb | ⟨p, hp, hpb⟩)
    · have := h.keeps.size; simp only at hb; exact .inl (by omega)
    · exact h.own p hp b hpb
  refine ⟨_, ⟨⟨fun e he => ?_, fun p hp => ?_, hf4.io, hf4.apart⟩, h.bel.trans h3.below (fun j _ hm => hM j hm), fun p hp b hb => hI b ((hf4.own p hp).lt hb).1, h.keeps.trans hko, fun b hb hc => ?_⟩, hko, fun b hb hnH hc => ?_⟩
  · have h5 := hf4.env e he
    have hmem : e.1 ∈ ks := by simpa using List.all_eq_true.1 hz e he
    have h6 := h3.kept e.1 hmem
    rw [h6] at h5
    simp only at h5
    rw [hkept e.1 hmem] at h5
    exact h5
  · have := (hf4.own p hp).moved (H' := hot X.O (virt ρ3 s.own) z.own) (ρ' := virt ρ3 s.own) (k := p.1) (f := id) (M' := X.M) (fun _ _ h => h) (fun _ _ h => h) rfl (fun b hb => hM b ((hf4.own p hp).lt hb).1)
    rw [OObj.map_id] at this
    exact this
  · have h1 := h.stays b hb hc
    have hlt := cells_lt hc
    refine Eq.trans (h3.below.block b ?_ ?_) h1
    · have := h.keeps.size; simp only; omega
    · intro hm
      rcases hI b hm with h7 | h7
      · omega
      · exact hb h7
  · have hlt := cells_lt hc
    refine h3.below.block b hlt ?_
    intro hm
    rcases hI b hm with h7 | h7
    · omega
    · exact hnH h7

/-- **A range over a function.** -/
theorem j_range {X : Cx} (hr : X.r = none) {s : AState} {K : Exit → AState → Prop} {g : Operand} {ps : Array Tmp} {assign body : Code} {gf : FuncId} {caps : List CV}
    (hg : opnd s g = some (.l (.fn gf caps))) (hcap : caps.all CV.pure = true) {items : List (List LV)} (hseq : SeqValid X.P gf ps.size caps items) {ms : List (Nat × Operand)} (hms : movesOf assign = some ms) (ks : List Nat)
    (hk1 : ks.all (fun t => !ps.toList.contains t && !(ms.map Prod.fst).contains t) = true) (hps : ps.toList.all (fun t => decide (t < X.T.N)) = true)
    {ι : Type} (f : Nat → ι → AState) (Φ : Nat → ι → Prop) (x₀ : ι) (h₀ : le s (f 0 x₀)) (hΦ : Φ 0 x₀) (hks : ∀ k x, (f k x).env.all (fun e => ks.contains e.1) = true)
    (hround : ∀ k (hk : k < items.length) (x : ι), Φ k x → ∃ s1, absMoves X.T.N (putAll (f k x) (ps.toList.zip items[k])) ms = some s1 ∧
      ∀ X' : Cx, X'.P = X.P → X'.T = { X.T with keep := ks } → J X' body s1 (rangeK f Φ ks K k))
    (hdone : ∀ x, Φ items.length x → K .normal (f items.length x)) : J X (.rangeFunc g ps assign body) s K := by
  intro a w hst
  obtain ⟨ρ, hf⟩ := hst.fits
  obtain ⟨H, hH⟩ : ∃ H, H = hot X.O ρ s.own := ⟨_, rfl⟩
  have hHlt : ∀ b, H b → b < w.heap.size := fun b hb => hf.hot_lt hst.others hst.below (by rw [hH] at hb; exact hb)
  obtain ⟨lb, hlb1, hlb2⟩ : RepL (hot X.O ρ s.own) w ρ (.fn gf caps) (a.eval g) := opnd_ok hf hg
  obtain ⟨enc, henc, hsq⟩ := hseq.seq H w lb hHlt (pureCaps_ok hcap (fun b hb => by rw [hH] at hb; exact hb) hlb2)
  have hw0 : X.w0.heap.size ≤ w.heap.size := hst.below.size
  have hout0 : OutOK X a w H (f 0 x₀) w (virt ρ s.own) := by
    have h1 := hf.le h₀
    exact ⟨h1, hst.below, fun p hp b hb => .inr (by rw [hH]; exact hot_le h₀ (hot_blk hp hb)), KeepsOthers.refl _, Stays.refl _ _⟩
  refine wpIn_rangeFunc ?_
  intro fn hfn
  have hround0 : (fw X.r).round = none := by rw [hr]; rfl
  rw [hround0]
  obtain ⟨rec, hrec⟩ : ∃ rec : LoopState → Option Code → Loop, rec = fun st pe => { state := st, pending := pe, fn, tmps := a.tmps, params := ps, assign, body, defers := w.heap.size } := ⟨_, rfl⟩
  obtain ⟨W1, hW1⟩ : ∃ W1, (w.alloc (.deferred (some []))).alloc (.loop (rec .ready none)) = W1 := ⟨_, rfl⟩
  have hsz1 : W1.heap.size = w.heap.size + 2 := by rw [← hW1]; simp
  have hL1 : W1.heap[w.heap.size + 1]? = some (.loop (rec .ready none)) := by
    rw [← hW1]; have := World.alloc_heap_new (w.alloc (.deferred (some []))) (.loop (rec .ready none)); rwa [World.size_alloc] at this
  have hD1 : W1.heap[w.heap.size]? = some (.deferred (some [])) := by
    rw [← hW1]; exact (Below.heap_alloc _ _ _ (by simp)).trans (World.alloc_heap_new w _)
  have hb1 : Below w.heap.size w W1 := by rw [← hW1]; exact ((Below.refl _ w).alloc (Nat.le_refl _) _).alloc (by simp) _
  have hout1 : OutOK X a w H (f 0 x₀) W1 (virt ρ s.own) := by
    rw [← hW1]
    exact (hout0.abide hw0 (World.grownBy_alloc _ _ none) (by simp)).abide hw0 (World.grownBy_alloc _ _ none) (by simp)
  refine ⟨w.heap.size + 1, [{ target := .collected w.heap.size, args := #[] }], W1, { target := .fn (.func gf) lb.toArray, args := #[.func (.yield (w.heap.size + 1)) #[] #[]] }, W1, gf,
    #[.func (.yield (w.heap.size + 1)) #[] #[]] ++ lb.toArray, W1, ?_, ?_, fun _ _ => trivial, ?_, fun h => by simp [fw, Fence.wide] at h, ?_⟩
  · rw [← hW1, hrec]; exact run_enterLoop_outer _ _ _ _ _
  · simp only [resolve, hlb1]
    simp [go_sem]
  · simp [invoke, go_sem, hseq.enters]
  have hfw : fw X.r = fw none := by rw [hr]
  rw [hfw]
  have hkeptA : ∀ k (act0 : Act), act0.tmps = ((ps.toList.zip (enc k).toList).foldl (fun (t : Array Value) (p : Nat × Value) => t.setIfInBounds p.1 p.2) a.tmps) → ∀ t ∈ ks, (runMoves act0 ms).tmps.getD t undef = a.tmps.getD t undef := by
    intro k act0 h0 t ht
    have h1 := List.all_eq_true.1 hk1 t ht
    simp only [Bool.and_eq_true, Bool.not_eq_true', List.contains_eq_mem, decide_eq_false_iff_not] at h1
    rw [runMoves_kept ms _ h1.2, h0, fold_kept]
    intro hm
    obtain ⟨p, hp, rfl⟩ := List.mem_map.1 hm
    exact h1.1 (List.of_mem_zip hp).1
  refine (hsq (w.heap.size + 1)
    (fun k W => (∃ x ρ, Φ k x ∧ OutOK X a w H (f k x) W ρ) ∧ W.heap[w.heap.size + 1]? = some (.loop (rec .ready none)) ∧ W.heap[w.heap.size]? = some (.deferred (some [])))
    (fun W => ∃ c, (∃ z ρ, jumpOK K z c ∧ OutOK X a w H z W ρ) ∧ W.heap[w.heap.size + 1]? = some (.loop (rec .done (some c))) ∧ W.heap[w.heap.size]? = some (.deferred (some [])))
    W1 hb1 ?_ ?_ ?_ ⟨⟨x₀, _, hΦ, hout1⟩, hL1, hD1⟩).mono ?_
  · rintro k A B row ⟨⟨x, ρx, hx, ho⟩, hl, hd⟩ hg' hrow
    refine ⟨⟨x, ρx, hx, ho.abide hw0 hg' (fun r e => ?_)⟩, (grownBy_keeps hg' (fun r e => (hrow r e).2) hl rfl).trans hl, (grownBy_keeps hg' (fun r e => (hrow r e).2) hd rfl).trans hd⟩
    obtain ⟨h1, o, h2, h3⟩ := hrow r e
    exact ⟨by omega, o, h2, Obj.not_cells_of_walk h3⟩
  · rintro _ A B row ⟨c, ⟨z, ρx, hx, ho⟩, hl, hd⟩ hg' hrow
    refine ⟨c, ⟨z, ρx, hx, ho.abide hw0 hg' (fun r e => ?_)⟩, (grownBy_keeps hg' (fun r e => (hrow r e).2) hl rfl).trans hl, (grownBy_keeps hg' (fun r e => (hrow r e).2) hd rfl).trans hd⟩
    obtain ⟨h1, o, h2, h3⟩ := hrow r e
    exact ⟨by omega, o, h2, Obj.not_cells_of_walk h3⟩
  · rintro k W ⟨⟨x, ρx, hx, ho⟩, hl, hd⟩ hkN
    obtain ⟨s1, hs1, hJ⟩ := hround k hkN x hx
    have hlt : w.heap.size + 1 < W.heap.size := (Array.getElem?_eq_some_iff.1 hl).1
    have hen := henc k hkN
    have hdat := hseq.data _ (List.getElem_mem hkN)
    have hes : (enc k).size = ps.size := by have := hen.length; rw [hdat.1] at this; simpa using this.symm
    have hy := run_yield (P := X.P) (args := enc k) hl (by rw [hrec]; exact hes)
    rw [hrec] at hy
    refine ⟨fn, _, assign, body, hy, roundIn_of_wpIn (F := fw none) trivial (movesOf_wp (r := some (w.heap.size + 1)) assign hms ⟨_, run_beginRound hl (by rw [hrec]), ?_⟩)⟩
    -- the record is busy
    obtain ⟨W2, hW2⟩ : ∃ W2, W.putObj (w.heap.size + 1) (.loop { rec .ready none with state := .busy }) = W2 := ⟨_, rfl⟩
    rw [hW2]
    have hl2 : W2.heap[w.heap.size + 1]? = some (.loop { rec .ready none with state := .busy }) := by rw [← hW2]; exact World.putObj_heap_same hlt
    have hd2 : W2.heap[w.heap.size]? = some (.deferred (some [])) := by rw [← hW2]; exact (World.putObj_heap_other (by omega)).trans hd
    have ho2 : OutOK X a w H (f k x) W2 ρx := by
      rw [← hW2]
      exact ho.abide hw0 (grownBy_putObj' _ _ _) (fun r e => by cases e; exact ⟨by omega, _, hl, rfl⟩)
    -- the round's frame
    have hzip : (ps.zip (enc k)).toList = ps.toList.zip (enc k).toList := Array.toList_zip
    have hfold : (ps.zip (enc k)).foldl (fun (t : Array Value) (p : Nat × Value) => t.setIfInBounds p.1 p.2) a.tmps = (ps.toList.zip (enc k).toList).foldl (fun (t : Array Value) (p : Nat × Value) => t.setIfInBounds p.1 p.2) a.tmps := by
      rw [← Array.foldl_toList, hzip]
    obtain ⟨act0, hact0⟩ : ∃ act0 : Act, act0 = { tmps := (ps.toList.zip (enc k).toList).foldl (fun (t : Array Value) (p : Nat × Value) => t.setIfInBounds p.1 p.2) a.tmps, defers := [] } := ⟨_, rfl⟩
    have hfitA : Fits X (f k x) { a with defers := [] } W2 ρx := ⟨ho2.fits.env, ho2.fits.own, ho2.fits.io, ho2.fits.apart⟩
    have hHsub : ∀ b, b < w.heap.size → hot X.O ρx (f k x).own b → H b := by
      rintro b hb (h1 | ⟨p, hp, hpb⟩)
      · rw [hH]; exact .inl h1
      · rcases ho2.own p hp b hpb with h2 | h2
        · omega
        · exact h2
    have hvals : All2 (RepL (hot X.O ρx (f k x).own) W2 ρx) ((ps.toList.zip (items[k])).map Prod.snd) (enc k).toList := by
      have e : (ps.toList.zip (items[k])).map Prod.snd = items[k] := List.map_snd_zip (by have := hdat.1; simp; omega)
      rw [e]
      refine hen.imp (fun y v hy h => ?_)
      have hz := List.all_eq_true.1 hdat.2 y hy
      refine RepL_move hHsub ho2.stays (fun id hid => ?_) h
      cases y <;> simp_all [LV.isZ, LV.isOf]
    have hszA : a.tmps.size = X.T.N := hst.size
    have e1 : (ps.toList.zip (items[k])).map Prod.fst = ps.toList := List.map_fst_zip (by have := hdat.1; simp; omega)
    obtain ⟨actP, hactP, hfitP, hszP⟩ := putAll_ok (ps.toList.zip (items[k])) (enc k).toList hfitA rfl hszA (fun p hp => by
      have := List.all_eq_true.1 hps p.1 (List.of_mem_zip hp).1
      simpa using this) hvals
    rw [e1] at hactP
    have hP0 : actP = act0 := by rw [hactP, hact0]
    rw [hP0] at hfitP hszP
    have hfit1 := absMoves_ok ms hfitP hszP hs1
    rw [hfold, ← hact0]
    have hkA := hkeptA k act0 (by rw [hact0])
    have hst1 : St { X with T := { X.T with keep := ks }, I := fun b => ∃ p ∈ (f k x).own, blk (ρx p.1) = some b, w0 := W2, r := some (w.heap.size + 1), tm := fun t => (runMoves act0 ms).tmps.getD t undef } s1 (runMoves act0 ms) W2 := by
      refine ⟨?_, fun _ _ => rfl, by rw [runMoves_size]; exact hszP, Bel.refl _ _, fun b hb hm => ?_, ⟨hst.small.n, ?_, fun b hb => ?_⟩, ρx, hfit1.env, fun p hp => ?_, hfit1.io, hfit1.apart⟩
      · rw [runMoves_defers, hact0]; exact Marks.nil _ _
      · rcases hm with hm | ⟨p, hp, hpb⟩
        · have h1 := hst.others b hb
          have h2 : b < X.w0.heap.size := by
            by_cases h3 : b < X.w0.heap.size
            · exact h3
            · exact absurd (.inl (by omega)) h1
          have := ho2.bel.size
          simp only at hm; omega
        · exact hst.others b hb ((ho2.fits.own p hp).lt hpb).1
      · have h1 := hst.small.on
        refine ⟨Nat.le_trans h1.1 ho2.bel.size, fun b hb => ?_⟩
        rw [← h1.2 b hb]
        refine ho2.bel.block b (Nat.lt_of_lt_of_le hb h1.1) ?_
        rintro (hm | hm)
        · have := h1.1; simp only at hb; omega
        · have := hst.small.io b hm; simp only at hb; omega
      · obtain ⟨p, hp, hpb⟩ := hb
        rcases ((ho2.fits.own p hp).lt hpb).1 with h1 | h1
        · exact Nat.le_trans hst.small.on.1 h1
        · exact hst.small.io b h1
      · have howns : s1.own = (f k x).own := by
          have hq : ∀ (l : List (Nat × LV)) (s : AState), (putAll s l).own = s.own := by
            intro l; induction l with
            | nil => intro s; rfl
            | cons q l ih => intro s; exact ih _
          have hm : ∀ (l : List (Nat × Operand)) (s t : AState), absMoves X.T.N s l = some t → t.own = s.own := by
            intro l; induction l with
            | nil => intro s t h; cases h; rfl
            | cons q l ih =>
              intro s t h
              simp only [absMoves] at h
              split at h
              · split at h
                · rw [ih _ _ h]; rfl
                · cases h
              · cases h
          rw [hm _ _ _ hs1, hq]
        have := (hfit1.own p hp).moved (H' := hot X.O ρx s1.own) (ρ' := ρx) (k := p.1) (f := id) (M' := Cx.M { X with T := { X.T with keep := ks }, I := fun b => ∃ p ∈ (f k x).own, blk (ρx p.1) = some b, w0 := W2, r := some (w.heap.size + 1), tm := fun t => (runMoves act0 ms).tmps.getD t undef }) (fun _ _ h => h) (fun _ _ h => h) rfl (fun b hb => .inr ⟨p, by rw [← howns]; exact hp, hb⟩)
        rw [OObj.map_id] at this
        exact this
    have hw := hJ { X with T := { X.T with keep := ks }, I := fun b => ∃ p ∈ (f k x).own, blk (ρx p.1) = some b, w0 := W2, r := some (w.heap.size + 1), tm := fun t => (runMoves act0 ms).tmps.getD t undef } rfl rfl _ _ hst1
    refine wpIn_fw (n := 2) (Code.wpIn_mono (fun e a3 W3 hp => ?_) hw)
    obtain ⟨s3, hK3, hst3⟩ := hp
    have fin : ∀ (jump : Option Code) (z : AState), z.env.all (fun e => ks.contains e.1) = true → le s3 z → ∃ ρz, OutOK X a w H z (W3.putObj (w.heap.size + 1) (.loop (rec (if jump.isNone then .ready else .done) jump))) ρz ∧
        (Instr.endRound (w.heap.size + 1) jump).run X.P W3 = .ok (.bool jump.isNone) (W3.putObj (w.heap.size + 1) (.loop (rec (if jump.isNone then .ready else .done) jump))) ∧
        (W3.putObj (w.heap.size + 1) (.loop (rec (if jump.isNone then .ready else .done) jump))).heap[w.heap.size + 1]? = some (.loop (rec (if jump.isNone then .ready else .done) jump)) ∧
        (W3.putObj (w.heap.size + 1) (.loop (rec (if jump.isNone then .ready else .done) jump))).heap[w.heap.size]? = some (.deferred (some [])) ∧
        KpOf H w.heap.size W (W3.putObj (w.heap.size + 1) (.loop (rec (if jump.isNone then .ready else .done) jump))) := by
      intro jump z hz hle
      obtain ⟨ρz, h1, h2, h3⟩ := ho2.back hkA hz hle hst3
      have hl3 := h2.same _ _ hl2 rfl
      have hd3 := h2.same _ _ hd2 rfl
      have he := run_endRound (P := X.P) jump hl3
      rw [hrec] at he ⊢
      refine ⟨ρz, h1.abide hw0 (grownBy_putObj' _ _ _) (fun r e => by cases e; exact ⟨by omega, _, hl3, rfl⟩), he, World.putObj_heap_same (Array.getElem?_eq_some_iff.1 hl3).1, (World.putObj_heap_other (by omega)).trans hd3, fun b hb hnH hc => ?_⟩
      have e1 : W2.heap[b]? = W.heap[b]? := by rw [← hW2]; exact World.putObj_heap_other (by omega)
      rw [World.putObj_heap_other (by omega), h3 b hb hnH (by rw [e1]; exact hc), e1]
    cases e with
    | normal =>
      obtain ⟨y, hle, hy'⟩ := hK3
      obtain ⟨ρz, h1, h2, h3, h4, h5⟩ := fin none _ (hks (k + 1) y) hle
      exact ⟨_, _, h2, .inl ⟨rfl, ⟨⟨y, ρz, hy', h1⟩, h3, h4⟩, h5⟩⟩
    | ret =>
      obtain ⟨z, hle, hz, hk3⟩ := hK3
      obtain ⟨ρz, h1, h2, h3, h4, h5⟩ := fin (some .ret) _ hz hle
      exact ⟨_, _, h2, .inr ⟨rfl, .ret, ⟨z, ρz, hk3, h1⟩, h3, h4⟩⟩
    | exit i =>
      obtain ⟨z, hle, hz, hk3⟩ := hK3
      obtain ⟨ρz, h1, h2, h3, h4, h5⟩ := fin (some (.exit i)) _ hz hle
      exact ⟨_, _, h2, .inr ⟨rfl, .exit i, ⟨z, ρz, hk3, h1⟩, h3, h4⟩⟩
    | goto t => exact hK3.elim
    | panic ch => exact hK3.elim
    | outgrown => exact hK3.elim
  · rintro e W2 ⟨⟨v, rfl⟩, (⟨⟨x, ρx, hx, ho⟩, hl, hd⟩ | ⟨c, ⟨z, ρz, hj, ho⟩, hl, hd⟩)⟩
    · have he := run_endLoop (P := X.P) hl (by rw [hrec]; simp)
      rw [hrec] at he
      refine ⟨none, _, he, _, hdone x hx, (ho.abide hw0 (grownBy_putObj' _ _ _) (fun r e => by cases e; exact ⟨by omega, _, hl, rfl⟩)).st hst ((World.putObj_heap_other (by omega)).trans hd)⟩
    · have he := run_endLoop (P := X.P) hl (by rw [hrec]; simp)
      rw [hrec] at he
      refine ⟨some c, _, he, ?_⟩
      cases c with
      | ret => exact wpIn_ret ⟨z, hj, (ho.abide hw0 (grownBy_putObj' _ _ _) (fun r e => by cases e; exact ⟨by omega, _, hl, rfl⟩)).st hst ((World.putObj_heap_other (by omega)).trans hd)⟩
      | exit i => exact wpIn_exit ⟨z, hj, (ho.abide hw0 (grownBy_putObj' _ _ _) (fun r e => by cases e; exact ⟨by omega, _, hl, rfl⟩)).st hst ((World.putObj_heap_other (by omega)).trans hd)⟩
      | _ => exact hj.elim

end Go.Cm
end

section
/- The machine's equations, each list as one fact. -/
set_option linter.defProp false
namespace Go.Cm
def mx0 := And.intro (@Go.Cm.Tab.conAt.eq_1) <| And.intro (@Go.Cm.coldCon.eq_1) <| And.intro (@Go.Cm.RV.cold.eq_1) <| And.intro (@Go.Cm.RV.cold.eq_2) <| And.intro (@Go.Cm.RV.cold.eq_3) <| And.intro (@Go.Cm.RV.cold.eq_4) <| And.intro (@Go.Cm.gRes.eq_1) <| And.intro (@Go.Cm.rvs?.eq_1) <| And.intro (@Go.Cm.rvs?.eq_2) <| And.intro (@Go.Cm.rvs?.eq_3) <| And.intro (@Go.Cm.rvs?.eq_4) <| And.intro (@Go.Cm.rvs?.eq_5) <| And.intro (@Go.Cm.CV.data.eq_1) <| And.intro (@Go.Cm.CV.data.eq_2) <| And.intro (@Go.Cm.convLV.eq_1) <| And.intro (@Go.Cm.convLV.eq_2) <| And.intro (@Go.Cm.convLV.eq_3) <| And.intro (@Go.Cm.convLV.eq_4) <| And.intro (@Go.Cm.convLV.eq_5) <| And.intro (@Go.Cm.convLV.eq_6) <| And.intro (@Go.Cm.convOwn.eq_1) <| And.intro (@Go.Cm.convOwn.eq_2) <| And.intro (@Go.Cm.convOwn.eq_3) <| And.intro (@Go.Cm.u8Slice.eq_1) <| And.intro (@Go.Cm.absMoves.eq_1) <| And.intro (@Go.Cm.absMoves.eq_2) <| And.intro (@Go.Cm.putAll.eq_1) <| And.intro (@Go.Cm.putAll.eq_2) <| And.intro (@List.zip_cons_cons.{0, 0}) <| And.intro (@List.zip_nil_right.{0, 0}) <| And.intro (@List.zip_nil_left.{0, 0}) <| And.intro (@Go.Op.operands.eq_1) <| And.intro (@Go.Op.operands.eq_2) <| And.intro (@Go.Op.operands.eq_3) <| And.intro (@Go.Op.operands.eq_4) <| And.intro (@Go.Op.operands.eq_5) <| And.intro (@Go.Op.operands.eq_6) <| And.intro (@Go.Op.operands.eq_7) <| And.intro (@Go.Op.operands.eq_8) <| And.intro (@Go.Op.operands.eq_9) <| And.intro (@Go.Op.operands.eq_10) <| And.intro (@Go.Op.operands.eq_11) <| And.intro (@Go.Op.operands.eq_12) <| And.intro (@Go.Op.operands.eq_13) <| And.intro (@Go.Op.operands.eq_14) <| And.intro (@Go.Op.operands.eq_15) <| And.intro (@Go.Op.operands.eq_16) <| And.intro (@Go.Op.operands.eq_17) <| And.intro (@Go.Op.operands.eq_18) <| And.intro (@Go.Op.operands.eq_19) <| And.intro (@Go.Op.operands.eq_20) <| And.intro (@Go.Op.operands.eq_21) <| And.intro (@Go.Op.operands.eq_22) <| And.intro (@Go.Op.operands.eq_23) <| And.intro (@Go.Op.operands.eq_24) <| And.intro (@Go.Op.operands.eq_25) <| And.intro (@Go.Op.operands.eq_26) <| And.intro (@Go.Op.operands.eq_27) <| And.intro (@Go.Op.operands.eq_28) <| And.intro (@Go.Op.operands.eq_29) <| And.intro (@Go.Op.operands.eq_30) <| And.intro (@Go.Op.operands.eq_31) <| And.intro (@Go.Op.operands.eq_32) <| And.intro (@Go.Op.operands.eq_33) <| And.intro (@Go.Op.operands.eq_34) <| And.intro (@Go.Op.operands.eq_35) <| And.intro (@Go.Op.operands.eq_36) <| And.intro (@Go.Op.operands.eq_37) <| And.intro (@Go.Op.operands.eq_38) <| And.intro (@Go.Op.operands.eq_39) <| And.intro (@Go.Op.operands.eq_40) <| And.intro (@Go.Op.operands.eq_41) <| And.intro (@Go.Op.operands.eq_42) <| And.intro (@Go.Op.operands.eq_43) <| And.intro (@Go.Call.operands.eq_1) <| And.intro (@Array.toList_append.{0}) <| And.intro (@List.append_toArray.{0}) <| And.intro (@Array.append_empty.{0}) <| And.intro (@Array.empty_append.{0}) <| And.intro (@Option.toArray_some.{0}) <| And.intro (@Option.toArray_none.{0}) <| And.intro (@Go.Cm.idxC.eq_1) <| And.intro (@Go.Cm.cutC.eq_1) <| And.intro (@Go.Cm.cut3C.eq_1) <| And.intro (@Go.Cm.mkC.eq_1) <| And.intro (@Go.Cm.exec.eq_1) <| And.intro (@Go.Cm.exec.eq_2) <| And.intro (@Go.Cm.stepOp.eq_1) <| And.intro (@Go.Cm.pureOp.eq_1) <| And.intro (@Go.Cm.pureOp.eq_2) <| And.intro (@Go.Cm.pureOp.eq_3) <| And.intro (@Go.Cm.pureOp.eq_4) <| And.intro (@Go.Cm.pureOp.eq_5) <| And.intro (@Go.Cm.pureOp.eq_6) <| And.intro (@Go.Cm.pureOp.eq_7) <| And.intro (@Go.Cm.pureOp.eq_8) <| And.intro (@Go.Cm.pureOp.eq_9) <| And.intro (@Go.Cm.pureOp.eq_10) <| And.intro (@Go.Cm.pureOp.eq_11) <| @Go.Cm.pureOp.eq_12
def mx1 := And.intro (@Go.Cm.pureOp.eq_13) <| And.intro (@Go.Cm.pureOp.eq_14) <| And.intro (@Go.Cm.pureOp.eq_15) <| And.intro (@Go.Cm.pureOp.eq_16) <| And.intro (@Go.Cm.pureCall.eq_1) <| And.intro (@Go.Cm.pureCall.eq_2) <| And.intro (@Go.Cm.pureCall.eq_3) <| And.intro (@Go.Cm.pureCall.eq_4) <| And.intro (@Go.Cm.pureCall.eq_5) <| And.intro (@Go.Cm.pureCall.eq_6) <| And.intro (@Go.Cm.pureCall.eq_7) <| And.intro (@Go.Cm.effOp.eq_1) <| And.intro (@Go.Cm.effOp.eq_2) <| And.intro (@Go.Cm.effOp.eq_3) <| And.intro (@Go.Cm.effOp.eq_4) <| And.intro (@Go.Cm.effOp.eq_5) <| And.intro (@Go.Cm.effOp.eq_6) <| And.intro (@Go.Cm.effOp.eq_7) <| And.intro (@Go.Cm.effOp.eq_8) <| And.intro (@Go.Cm.effOp.eq_9) <| And.intro (@Go.Cm.effOp.eq_10) <| And.intro (@Go.Cm.effOp.eq_11) <| And.intro (@Go.Cm.effOp.eq_12) <| And.intro (@Go.Cm.effOp.eq_13) <| And.intro (@Go.Cm.effOp.eq_14) <| And.intro (@Go.Cm.effOp.eq_15) <| And.intro (@Go.Cm.effOp.eq_16) <| And.intro (@Go.Cm.effOp.eq_17) <| And.intro (@Go.Cm.effOp.eq_18) <| And.intro (@Go.Cm.effOp.eq_19) <| And.intro (@Go.Cm.effOp.eq_20) <| And.intro (@Go.Cm.appendOp.eq_1) <| And.intro (@Go.Cm.appendOp.eq_2) <| And.intro (@Go.Cm.opnd.eq_1) <| And.intro (@Go.Cm.opnd.eq_2) <| And.intro (@Go.Cm.opnd.eq_3) <| And.intro (@Go.Cm.opnd.eq_4) <| And.intro (@Go.Cm.constLV.eq_1) <| And.intro (@Go.Cm.constLV.eq_2) <| And.intro (@Go.Cm.constLV.eq_3) <| And.intro (@Go.Cm.constLV.eq_4) <| And.intro (@Go.Cm.leaf.eq_1) <| And.intro (@Go.Cm.leaf.eq_2) <| And.intro (@Go.Cm.optLeaf.eq_1) <| And.intro (@Go.Cm.optLeaf.eq_2) <| And.intro (@Go.Cm.get?.eq_1) <| And.intro (@Go.Cm.get?.eq_2) <| And.intro (@Go.Cm.upd.eq_1) <| And.intro (@Go.Cm.upd.eq_2) <| And.intro (@Go.Cm.del.eq_1) <| And.intro (@Go.Cm.del.eq_2) <| And.intro (@Go.Cm.Tab.ok.eq_1) <| And.intro (@Go.Cm.AState.put.eq_1) <| And.intro (@Go.Cm.AState.kill.eq_1) <| And.intro (@Go.Cm.AState.hush.eq_1) <| And.intro (@Go.Cm.AState.freeze.eq_1) <| And.intro (@Go.Cm.AState.freezeAll.eq_1) <| And.intro (@Go.Cm.AState.freezeAll.eq_2) <| And.intro (@Go.Cm.frozenAt.eq_1) <| And.intro (@Go.Cm.pureArg.eq_1) <| And.intro (@Go.Cm.litArgs.eq_1) <| And.intro (@Go.Cm.litArgs.eq_2) <| And.intro (@Go.Cm.litArgs.eq_3) <| And.intro (@Go.Cm.litArgs.eq_4) <| And.intro (@Go.Cm.buildCells.eq_1) <| And.intro (@Go.Cm.buildCells.eq_2) <| And.intro (@Go.Cm.buildCells.eq_3) <| And.intro (@Go.Cm.buildCells.eq_4) <| And.intro (@Go.Cm.readCells.eq_1) <| And.intro (@Go.Cm.readCells.eq_2) <| And.intro (@Go.Cm.mapEnv.eq_1) <| And.intro (@Go.Cm.mapEnv.eq_2) <| And.intro (@Go.Cm.mapOwn.eq_1) <| And.intro (@Go.Cm.mapOwn.eq_2) <| And.intro (@Go.Cm.LV.kill.eq_1) <| And.intro (@Go.Cm.LV.isOf.eq_1) <| And.intro (@Go.Cm.LV.isOf.eq_2) <| And.intro (@Go.Cm.LV.isOf.eq_3) <| And.intro (@Go.Cm.LV.isOf.eq_4) <| And.intro (@Go.Cm.LV.isOf.eq_5) <| And.intro (@Go.Cm.LV.isOf.eq_6) <| And.intro (@Go.Cm.LV.thaw.eq_1) <| And.intro (@Go.Cm.LV.thaw.eq_2) <| And.intro (@Go.Cm.AV.map.eq_1) <| And.intro (@Go.Cm.AV.map.eq_2) <| And.intro (@Go.Cm.AV.map.eq_3) <| And.intro (@Go.Cm.AV.map.eq_4) <| And.intro (@Go.Cm.AV.map.eq_5) <| And.intro (@Go.Cm.OObj.map.eq_1) <| And.intro (@Go.Cm.OObj.map.eq_2) <| And.intro (@Go.Cm.OObj.map.eq_3) <| And.intro (@Go.Cm.lenLV.eq_1) <| And.intro (@Go.Cm.lenLV.eq_2) <| And.intro (@Go.Cm.lenLV.eq_3) <| And.intro (@Go.Cm.lenLV.eq_4) <| And.intro (@Go.Cm.lenLV.eq_5) <| And.intro (@Go.Cm.lenLV.eq_6) <| And.intro (@Go.Cm.lenLV.eq_7) <| And.intro (@Go.Cm.lenLV.eq_8) <| @Go.Cm.lenLV.eq_9
def mx2 := And.intro (@Go.Cm.lenLV.eq_10) <| And.intro (@Go.Cm.binLV.eq_1) <| And.intro (@Go.Cm.binLV.eq_2) <| And.intro (@Go.Cm.binLV.eq_3) <| And.intro (@Go.Cm.binLV.eq_4) <| And.intro (@Go.Cm.binLV.eq_5) <| And.intro (@Go.Cm.binLV.eq_6) <| And.intro (@Go.Cm.binLV.eq_7) <| And.intro (@Go.Cm.binLV.eq_8) <| And.intro (@Go.Cm.intBin.eq_1) <| And.intro (@Go.Cm.intBin.eq_2) <| And.intro (@Go.Cm.intBin.eq_3) <| And.intro (@Go.Cm.intBin.eq_4) <| And.intro (@Go.Cm.intBin.eq_5) <| And.intro (@Go.Cm.intBin.eq_6) <| And.intro (@Go.Cm.intBin.eq_7) <| And.intro (@Go.Cm.intBin.eq_8) <| And.intro (@Go.Cm.intBin.eq_9) <| And.intro (@Go.Cm.intBin.eq_10) <| And.intro (@Go.Cm.intBin.eq_11) <| And.intro (@Go.Cm.intBin.eq_12) <| And.intro (@Go.Cm.intBin.eq_13) <| And.intro (@Go.Cm.intBin.eq_14) <| And.intro (@Go.Cm.intBin.eq_15) <| And.intro (@Go.Cm.intBin.eq_16) <| And.intro (@Go.Cm.intBin.eq_17) <| And.intro (@Go.Cm.boolBin.eq_1) <| And.intro (@Go.Cm.boolBin.eq_2) <| And.intro (@Go.Cm.boolBin.eq_3) <| And.intro (@Go.Cm.strBin.eq_1) <| And.intro (@Go.Cm.strBin.eq_2) <| And.intro (@Go.Cm.strBin.eq_3) <| And.intro (@Go.Cm.strBin.eq_4) <| And.intro (@Go.Cm.unLV.eq_1) <| And.intro (@Go.Cm.unLV.eq_2) <| And.intro (@Go.Cm.unLV.eq_3) <| And.intro (@Go.Cm.sliceLV.eq_1) <| And.intro (@Go.Cm.sliceLV.eq_2) <| And.intro (@Go.Cm.sliceLV.eq_3) <| And.intro (@Go.Cm.sliceLV.eq_4) <| And.intro (@Go.Cm.sliceLV.eq_5) <| And.intro (@Go.Cm.sliceLV.eq_6) <| And.intro (@Go.Cm.sliceLV.eq_7) <| And.intro (@Go.Cm.intArg.eq_1) <| And.intro (@Go.Cm.intArg.eq_2) <| And.intro (@Go.Cm.intArg.eq_3) <| And.intro (@Go.Cm.LV.get_self) <| And.intro (@Go.Cm.AV.get_self) <| And.intro (@Go.Cm.LV.get.eq_1) <| And.intro (@Go.Cm.LV.get.eq_2) <| And.intro (@Go.Cm.LV.get.eq_3) <| And.intro (@Go.Cm.LV.get.eq_4) <| And.intro (@Go.Cm.LV.get.eq_5) <| And.intro (@Go.Cm.AV.get.eq_1) <| And.intro (@Go.Cm.AV.get.eq_2) <| And.intro (@Go.Cm.AV.get.eq_3) <| And.intro (@Go.Cm.AV.ids.eq_1) <| And.intro (@Go.Cm.AV.ids.eq_2) <| And.intro (@Go.Cm.AV.ids.eq_3) <| And.intro (@Go.Cm.LV.ids.eq_1) <| And.intro (@Go.Cm.LV.ids.eq_2) <| And.intro (@Go.Cm.Ty.w.eq_1) <| And.intro (@Go.Cm.Ty.w.eq_2) <| And.intro (@Go.Cm.Ty.w.eq_3) <| And.intro (@Go.Cm.Ty.w.eq_4) <| And.intro (@Go.Cm.Ty.w.eq_5) <| And.intro (@Go.Cm.Ty.zero.eq_1) <| And.intro (@Go.Cm.Ty.zero.eq_2) <| And.intro (@Go.Cm.Ty.zero.eq_3) <| And.intro (@Go.Cm.Ty.zero.eq_4) <| And.intro (@Go.Cm.Ty.zero.eq_5) <| And.intro (@Go.Cm.Ty.zero.eq_6) <| And.intro (@Go.Cm.Ty.zero.eq_7) <| And.intro (@Go.Cm.Ty.zero.eq_8) <| And.intro (@Go.Cm.Ty.zero.eq_9) <| And.intro (@Go.Cm.Ty.zero.eq_10) <| And.intro (@Go.Cm.Ty.isAgg.eq_1) <| And.intro (@Go.Cm.Ty.isAgg.eq_2) <| And.intro (@Go.Cm.Ty.isAgg.eq_3) <| And.intro (@Go.Cm.isNilS.eq_1) <| And.intro (@Go.Cm.isNilS.eq_2) <| And.intro (@Go.Cm.isNilP.eq_1) <| And.intro (@Go.Cm.isNilP.eq_2) <| And.intro (@Go.Cm.LV.cells.eq_1) <| And.intro (@Go.Cm.LV.cells.eq_2) <| And.intro (@Go.Cm.LV.cells.eq_3) <| And.intro (@Go.Cm.LV.cells.eq_4) <| And.intro (@Go.Cm.AV.cells.eq_1) <| And.intro (@Go.Cm.AV.cells.eq_2) <| And.intro (@Go.Cm.AV.cells.eq_3) <| And.intro (@Go.Cm.Ty.cells.eq_1) <| And.intro (@Go.Cm.Ty.cells.eq_2) <| And.intro (@Go.Cm.Ty.cells.eq_3) <| And.intro (@Go.Cm.Ty.cells.eq_4) <| And.intro (@Go.Cm.Ty.cells.eq_5) <| And.intro (@Go.Cm.Ty.cells.eq_6) <| And.intro (@Go.Cm.Ty.cells.eq_7) <| And.intro (@Go.Cm.Ty.cells.eq_8) <| And.intro (@Go.Cm.Ty.cells.eq_9) <| @Go.Cm.Ty.cells.eq_10
def mx3 := And.intro (@Go.Cm.LV.names.eq_1) <| And.intro (@Go.Cm.LV.names.eq_2) <| And.intro (@Go.Cm.Ty.join.eq_1) <| And.intro (@Go.Cm.Ty.join.eq_2) <| And.intro (@Go.Cm.Ty.join.eq_3) <| And.intro (@Go.Cm.Ty.join.eq_4) <| And.intro (@Go.Cm.Ty.join.eq_5) <| And.intro (@Go.Cm.Ty.join.eq_6) <| And.intro (@Go.Cm.Ty.join.eq_7) <| And.intro (@Go.Cm.Ty.join.eq_8) <| And.intro (@Go.Cm.Ty.join.eq_9) <| And.intro (@Go.Cm.Ty.join.eq_10) <| And.intro (@Go.Cm.Ty.join.eq_11) <| And.intro (@Go.Cm.Ty.fields.eq_1) <| And.intro (@Go.Cm.Ty.fields.eq_2) <| And.intro (@Go.Cm.Ty.fields.eq_3) <| And.intro (@Go.Cm.Ty.fieldTy.eq_1) <| And.intro (@Go.Cm.Ty.fieldTy.eq_2) <| And.intro (@Go.Cm.Ty.fieldTy.eq_3) <| And.intro (@Go.Cm.Ty.fieldTy.eq_4) <| And.intro (@Go.Cm.Ty.fieldOf.eq_1) <| And.intro (@Go.Cm.Ty.fieldOf.eq_2) <| And.intro (@Go.Cm.Ty.fieldOf.eq_3) <| And.intro (@Go.Cm.Ty.fieldOf.eq_4) <| And.intro (@Go.Cm.Ty.fieldOf.eq_5) <| And.intro (@Go.Cm.Ty.fieldOf.eq_6) <| And.intro (@Go.Cm.Ty.fieldOf.eq_7) <| And.intro (@Go.Cm.Ty.fieldOf.eq_8) <| And.intro (@Go.Cm.Ty.fieldOf.eq_9) <| And.intro (@Go.Cm.Ty.fieldOf.eq_10) <| And.intro (@Go.Cm.Ty.fieldOf.eq_11) <| And.intro (@Go.Cm.Ty.fieldOf.eq_12) <| And.intro (@Go.Cm.Ty.fieldOf.eq_13) <| And.intro (@Go.Cm.Ty.fieldOf.eq_14) <| And.intro (@Go.Cm.Ty.fieldOf.eq_15) <| And.intro (@Go.Cm.Ty.fieldOf.eq_16) <| And.intro (@Go.Cm.Ty.fieldOf.eq_17) <| And.intro (@Go.Cm.Ty.fieldOf.eq_18) <| And.intro (@Go.Cm.Ty.fieldOf.eq_19) <| And.intro (@Go.Cm.Ty.fieldOf.eq_20) <| And.intro (@Go.Cm.Ty.fieldOff.eq_1) <| And.intro (@Go.Cm.Ty.fieldOff.eq_2) <| And.intro (@Go.Cm.Ty.zeroCells.eq_1) <| And.intro (@Go.Cm.Ty.zeroCells.eq_2) <| And.intro (@Go.Cm.Ty.zeroCells.eq_3) <| And.intro (@Go.Cm.Ty.zeroCells.eq_4) <| And.intro (@Go.Cm.Ty.zeroCells.eq_5) <| And.intro (@Go.Cm.Ty.zeroCells.eq_6) <| And.intro (@Go.Cm.Ty.zeroCells.eq_7) <| And.intro (@Go.Cm.Ty.zeroCells.eq_8) <| And.intro (@Go.Cm.Ty.zeroCells.eq_9) <| And.intro (@Go.Cm.Ty.zeroCells.eq_10) <| And.intro (@Go.Cm.calleeOf.eq_1) <| And.intro (@Go.Cm.callOp.eq_1) <| And.intro (@Go.Cm.callArgs.eq_1) <| And.intro (@Go.Cm.callArgs.eq_2) <| And.intro (@Go.Cm.callArgs.eq_3) <| And.intro (@Go.Cm.lendArg.eq_1) <| And.intro (@Go.Cm.lendArg.eq_2) <| And.intro (@Go.Cm.lendArg.eq_3) <| And.intro (@Go.Cm.callArg.eq_1) <| And.intro (@Go.Cm.lentOf.eq_1) <| And.intro (@Go.Cm.once.eq_1) <| And.intro (@Go.Cm.once.eq_2) <| And.intro (@Go.Cm.ownLends.eq_1) <| And.intro (@Go.Cm.ownLends.eq_2) <| And.intro (@Go.Cm.ownLends.eq_3) <| And.intro (@Go.Cm.LV.lends.eq_1) <| And.intro (@Go.Cm.LV.lends.eq_2) <| And.intro (@Go.Cm.LV.lends.eq_3) <| And.intro (@Go.Cm.LV.lends.eq_4) <| And.intro (@Go.Cm.LV.lends.eq_5) <| And.intro (@Go.Cm.CV.lends.eq_1) <| And.intro (@Go.Cm.CV.lends.eq_2) <| And.intro (@Go.Cm.OObj.lends.eq_1) <| And.intro (@Go.Cm.OObj.lends.eq_2) <| And.intro (@Go.Cm.distinct.eq_1) <| And.intro (@Go.Cm.distinct.eq_2) <| And.intro (@Go.Cm.lendAll.eq_1) <| And.intro (@Go.Cm.lendAll.eq_2) <| And.intro (@Go.Cm.lendObj.eq_1) <| And.intro (@Go.Cm.lendObj.eq_2) <| And.intro (@Go.Cm.lentAt.eq_1) <| And.intro (@Go.Cm.lentAt.eq_2) <| And.intro (@Go.Cm.LV.ren.eq_1) <| And.intro (@Go.Cm.LV.ren.eq_2) <| And.intro (@Go.Cm.LV.ren.eq_3) <| And.intro (@Go.Cm.LV.ren.eq_4) <| And.intro (@Go.Cm.LV.ren.eq_5) <| And.intro (@Go.Cm.LV.ren.eq_6) <| And.intro (@Go.Cm.LV.ren.eq_7) <| And.intro (@Go.Cm.CV.ren.eq_1) <| And.intro (@Go.Cm.CV.ren.eq_2) <| And.intro (@Go.Cm.capsRen.eq_1) <| And.intro (@Go.Cm.capsRen.eq_2) <| And.intro (@Go.Cm.backAll.eq_1) <| And.intro (@Go.Cm.backAll.eq_2) <| And.intro (@Go.Cm.backAll.eq_3) <| And.intro (@Go.Cm.backObj.eq_1) <| @Go.Cm.backObj.eq_2
def mx4 := And.intro (@Go.Cm.backObj.eq_3) <| And.intro (@Go.Cm.backAt.eq_1) <| And.intro (@Go.Cm.LV.back.eq_1) <| And.intro (@Go.Cm.LV.back.eq_2) <| And.intro (@Go.Cm.LV.back.eq_3) <| And.intro (@Go.Cm.LV.back.eq_4) <| And.intro (@Go.Cm.LV.back.eq_5) <| And.intro (@Go.Cm.LV.back.eq_6) <| And.intro (@Go.Cm.CV.back.eq_1) <| And.intro (@Go.Cm.CV.back.eq_2) <| And.intro (@Go.Cm.capsBack.eq_1) <| And.intro (@Go.Cm.capsBack.eq_2) <| And.intro (@Go.Cm.ioB.eq_1) <| And.intro (@Go.Cm.endCall.eq_1) <| And.intro (@Go.Cm.ownIds.eq_1) <| And.intro (@Go.Cm.ownIds.eq_2) <| And.intro (@Go.Cm.ownIds.eq_3) <| And.intro (@Go.Cm.killAll.eq_1) <| And.intro (@Go.Cm.killAll.eq_2) <| And.intro (@Go.Cm.giveAll.eq_1) <| And.intro (@Go.Cm.giveAll.eq_2) <| And.intro (@Go.Cm.RV.give.eq_1) <| And.intro (@Go.Cm.RV.give.eq_2) <| And.intro (@Go.Cm.RV.give.eq_3) <| And.intro (@Go.Cm.RV.give.eq_4) <| And.intro (@Go.Cm.guardOf.eq_1) <| And.intro (@Go.Cm.tmpsOf.eq_1) <| And.intro (@Go.Cm.tmpsOf.eq_2) <| And.intro (@Go.Cm.tmpsOf.eq_3) <| And.intro (@Go.Cm.subEnv.eq_1) <| And.intro (@Go.Cm.subEnv.eq_2) <| And.intro (@Go.Cm.asks.eq_1) <| And.intro (@Go.Cm.asks.eq_2) <| And.intro (@Go.Cm.AV.plain.eq_1) <| And.intro (@Go.Cm.AV.plain.eq_2) <| And.intro (@Go.Cm.AV.plain.eq_3) <| And.intro (@Go.Cm.anyLeaf.eq_1) <| And.intro (@Go.Cm.anyLeaf.eq_2) <| And.intro (@Go.Cm.anyLeaf.eq_3) <| And.intro (@Go.Cm.pickLV.eq_1) <| And.intro (@Go.Cm.plainCall.eq_1) <| And.intro (@Go.Cm.plainArgs.eq_1) <| And.intro (@Go.Cm.plainArgs.eq_2) <| And.intro (@Go.Cm.plainArgs.eq_3) <| And.intro (@Go.Cm.plainArg.eq_1) <| And.intro (@Go.Cm.LV.plain.eq_1) <| And.intro (@Go.Cm.LV.plain.eq_2) <| And.intro (@Go.Cm.LV.plain.eq_3) <| And.intro (@Go.Cm.LV.plain.eq_4) <| And.intro (@Go.Cm.capsOf.eq_1) <| And.intro (@Go.Cm.capsOf.eq_2) <| And.intro (@Go.Cm.CV.lv.eq_1) <| And.intro (@Go.Cm.CV.lv.eq_2) <| And.intro (@Go.Cm.CV.isOf.eq_1) <| And.intro (@Go.Cm.CV.isOf.eq_2) <| And.intro (@Go.Value.oneCell'.eq_1) <| And.intro (@Go.Value.oneCell'.eq_2) <| And.intro (@Go.Value.oneCell'.eq_3) <| And.intro (@Go.Cm.LV.io.eq_1) <| And.intro (@Go.Cm.LV.io.eq_2) <| And.intro (@Go.Cm.LV.io.eq_3) <| And.intro (@Go.Cm.LV.io.eq_4) <| And.intro (@Go.Cm.LV.io.eq_5) <| And.intro (@Go.Cm.LV.io.eq_6) <| And.intro (@Go.Cm.LV.io.eq_7) <| And.intro (@List.toList_toArray.{0}) <| And.intro (@List.contains_nil.{0}) <| And.intro (@List.contains_cons.{0}) <| And.intro (@List.map_nil.{0, 0}) <| And.intro (@List.map_cons.{0, 0}) <| And.intro (@List.append_nil.{0}) <| And.intro (@List.nil_append.{0}) <| And.intro (@List.cons_append.{0}) <| And.intro (@List.flatMap_nil.{0, 0}) <| And.intro (@List.flatMap_cons.{0, 0}) <| And.intro (@List.isEmpty_nil.{0}) <| And.intro (@List.length_cons.{0}) <| And.intro (@List.length_nil.{0}) <| And.intro (@List.getElem?_cons_zero.{0}) <| And.intro (@List.getElem?_cons_succ.{0}) <| And.intro (@List.getElem?_nil.{0}) <| And.intro (@List.all_nil.{0}) <| And.intro (@List.all_cons.{0}) <| And.intro (@List.any_nil.{0}) <| And.intro (@List.any_cons.{0}) <| And.intro (@List.drop_zero.{0}) <| And.intro (@List.take_zero.{0}) <| And.intro (@List.drop_succ_cons.{0}) <| And.intro (@List.take_succ_cons.{0}) <| And.intro (@List.drop_nil.{0}) <| And.intro (@List.take_nil.{0}) <| And.intro (@Option.map_some.{0, 0}) <| And.intro (@Option.map_none.{0, 0}) <| And.intro (@Option.isSome_some.{0}) <| And.intro (@Option.isSome_none.{0}) <| And.intro (@Option.getD_some.{0}) <| And.intro (@Option.getD_none.{0}) <| And.intro (@Option.isNone_none.{0}) <| And.intro (@Option.isNone_some.{0}) <| @Bool.not_false
def mx5 := And.intro (@Bool.not_true) <| And.intro (@Bool.and_true) <| And.intro (@Bool.true_and) <| And.intro (@Bool.and_false) <| And.intro (@Bool.false_and) <| And.intro (@Bool.or_false) <| And.intro (@Bool.false_or) <| And.intro (@Bool.or_true) <| And.intro (@Bool.true_or) <| And.intro (@Nat.lt_irrefl) <| And.intro (@Nat.lt_add_one) <| And.intro (@decide_true) <| And.intro (@decide_false) <| And.intro (@ite_true.{1}) <| And.intro (@ite_true.{0}) <| And.intro (@ite_false.{1}) <| And.intro (@ite_false.{0}) <| And.intro (@dite_true.{1}) <| And.intro (@dite_true.{0}) <| And.intro (@dite_false.{1}) <| And.intro (@dite_false.{0}) <| And.intro (@beq_self_eq_true.{0}) <| And.intro (@bne_self_eq_false.{0}) <| And.intro (@eq_self.{1}) <| And.intro (@eq_self.{0}) <| And.intro (@true_and) <| And.intro (@and_true) <| And.intro (@if_true.{1}) <| And.intro (@if_true.{0}) <| And.intro (@if_false.{1}) <| And.intro (@if_false.{0}) <| And.intro (@true_implies) <| And.intro (@false_implies) <| And.intro (@implies_true.{1}) <| And.intro (@implies_true.{0}) <| And.intro (@Bool.false_eq_true) <| And.intro (@Bool.true_eq_false) <| And.intro (@not_false_eq_true) <| And.intro (@not_true_eq_false) <| And.intro (@Prod.mk.injEq.{0, 0}) <| And.intro (@and_self) <| And.intro (@Nat.zero_add) <| And.intro (@Nat.add_zero) <| And.intro (@Array.size_empty.{0}) <| And.intro (@List.size_toArray.{0}) <| And.intro (@Nat.le_refl) <| And.intro (@BEq.rfl.{0}) <| And.intro (@Go.Cm.Ty.int.injEq) <| And.intro (@Go.Cm.Ty.slice.injEq) <| And.intro (@Go.Cm.Ty.ptr.injEq) <| And.intro (@Go.Cm.Ty.st.injEq) <| And.intro (@Go.Cm.Ty.pair.injEq) <| And.intro (@Go.Cm.Ty.arr.injEq) <| And.intro (@Go.Cm.Ty.opt.injEq) <| And.intro (@false_and) <| @and_false
def mt0 := And.intro (@Go.Cm.trace.eq_1) <| And.intro (@Go.Cm.trace.eq_2) <| And.intro (@Go.Cm.fstep.eq_1) <| And.intro (@Go.Cm.gval.eq_1) <| And.intro (@Go.Cm.rdLocs.eq_1) <| And.intro (@Go.Cm.rdSlots.eq_1) <| And.intro (@Go.Cm.readsOwn.eq_1) <| And.intro (@Go.Cm.readsOwn.eq_2) <| And.intro (@Go.Cm.readsOwn.eq_3) <| And.intro (@Go.Cm.readsOwn.eq_4) <| And.intro (@Go.Cm.readsOwn.eq_5) <| And.intro (@Go.Cm.readsOwn.eq_6) <| And.intro (@Go.Cm.readsOwn.eq_7) <| And.intro (@Go.Cm.slotRefs.eq_1) <| And.intro (@Go.Cm.slotRefs.eq_2) <| And.intro (@Go.Cm.AV.refs.eq_1) <| And.intro (@Go.Cm.AV.refs.eq_2) <| And.intro (@Go.Cm.AV.refs.eq_3) <| And.intro (@Go.Cm.AV.refs.eq_4) <| And.intro (@Go.Cm.AV.refs.eq_5) <| And.intro (@Go.Cm.LV.refs.eq_1) <| And.intro (@Go.Cm.LV.refs.eq_2) <| And.intro (@Go.Cm.LV.refs.eq_3) <| And.intro (@Go.Cm.LV.refs.eq_4) <| And.intro (@Go.Cm.LV.refs.eq_5) <| And.intro (@Go.Cm.LV.refs.eq_6) <| And.intro (@Go.Cm.CV.refs.eq_1) <| And.intro (@Go.Cm.CV.refs.eq_2) <| And.intro (@Go.Cm.OObj.refs.eq_1) <| And.intro (@Go.Cm.OObj.refs.eq_2) <| And.intro (@Go.Cm.ownRefs.eq_1) <| And.intro (@Go.Cm.ownRefs.eq_2) <| And.intro (@Go.Cm.Eff.apply.eq_1) <| And.intro (@Go.Cm.Eff.apply.eq_2) <| And.intro (@Go.Cm.Eff.apply.eq_3) <| And.intro (@Go.Cm.Eff.locs.eq_1) <| And.intro (@Go.Cm.Eff.locs.eq_2) <| And.intro (@Go.Cm.Eff.locs.eq_3) <| And.intro (@Go.Cm.Eff.news.eq_1) <| And.intro (@Go.Cm.Eff.news.eq_2) <| And.intro (@Go.Cm.Eff.refs.eq_1) <| And.intro (@Go.Cm.Eff.refs.eq_2) <| And.intro (@Go.Cm.Eff.refs.eq_3) <| And.intro (@Go.Cm.pureRV.eq_1) <| And.intro (@Go.Cm.pureRV.eq_2) <| And.intro (@Go.Cm.litPure.eq_1) <| And.intro (@Go.Cm.litPure.eq_2) <| And.intro (@Go.Cm.litPure.eq_3) <| @Go.Cm.litPure.eq_4
def ml0 := And.intro (@Go.Cm.le_iff) <| And.intro (@Go.Cm.leEnv_nil) <| And.intro (@Go.Cm.leOwn_nil) <| And.intro (@Go.Cm.leEnv.eq_1) <| And.intro (@Go.Cm.leEnv.eq_2) <| And.intro (@Go.Cm.leOwn.eq_1) <| And.intro (@Go.Cm.leOwn.eq_2) <| And.intro (@Go.Cm.leOwn.eq_3) <| And.intro (@Go.Cm.AV.leq_z) <| And.intro (@Go.Cm.LV.leq_z) <| And.intro (@Go.Cm.OObj.leq_arr) <| And.intro (@Go.Cm.OObj.leq.eq_1) <| And.intro (@Go.Cm.OObj.leq.eq_2) <| And.intro (@Go.Cm.OObj.leq.eq_3) <| And.intro (@Go.Cm.OObj.leq.eq_4) <| And.intro (@Go.Cm.leqs.eq_1) <| And.intro (@Go.Cm.leqs.eq_2) <| And.intro (@Go.Cm.leqs.eq_3) <| And.intro (@Go.Cm.AV.leq.eq_1) <| And.intro (@Go.Cm.AV.leq.eq_2) <| And.intro (@Go.Cm.AV.leq.eq_3) <| And.intro (@Go.Cm.AV.leq.eq_4) <| And.intro (@Go.Cm.AV.leq.eq_5) <| And.intro (@Go.Cm.AV.leq.eq_6) <| And.intro (@Go.Cm.AV.leq.eq_7) <| And.intro (@Go.Cm.AV.leq.eq_8) <| And.intro (@Go.Cm.AV.leq.eq_9) <| And.intro (@Go.Cm.AV.leq.eq_10) <| And.intro (@Go.Cm.AV.leq.eq_11) <| And.intro (@Go.Cm.LV.leq.eq_1) <| And.intro (@Go.Cm.LV.leq.eq_2) <| And.intro (@Go.Cm.LV.leq.eq_3) <| And.intro (@Go.Cm.LV.leq.eq_4) <| And.intro (@Go.Cm.LV.leq.eq_5) <| And.intro (@Go.Cm.LV.leq.eq_6) <| And.intro (@Go.Cm.LV.leq.eq_7) <| And.intro (@Go.Cm.LV.leq.eq_8) <| And.intro (@Go.Cm.CV.known.eq_1) <| And.intro (@Go.Cm.CV.known.eq_2) <| And.intro (@Go.Cm.LV.get_self) <| And.intro (@Go.Cm.AV.get_self) <| And.intro (@Go.Cm.LV.get.eq_1) <| And.intro (@Go.Cm.LV.get.eq_2) <| And.intro (@Go.Cm.LV.get.eq_3) <| And.intro (@Go.Cm.LV.get.eq_4) <| And.intro (@Go.Cm.LV.get.eq_5) <| And.intro (@Go.Cm.AV.get.eq_1) <| And.intro (@Go.Cm.AV.get.eq_2) <| And.intro (@Go.Cm.AV.get.eq_3) <| And.intro (@Go.Cm.get?.eq_1) <| And.intro (@Go.Cm.get?.eq_2) <| And.intro (@Option.some.injEq.{0}) <| And.intro (@and_assoc) <| And.intro (@exists_and_left.{1}) <| And.intro (@exists_and_left.{0}) <| And.intro (@exists_eq_left'.{1}) <| And.intro (@exists_eq_left'.{0}) <| And.intro (@exists_eq_left.{1}) <| And.intro (@exists_eq_left.{0}) <| And.intro (@Prod.exists.{0, 0}) <| And.intro (@exists_const.{1}) <| And.intro (@exists_const.{0}) <| And.intro (@Go.Cm.AV.l.injEq) <| And.intro (@Go.Cm.LV.ownS.injEq) <| And.intro (@Go.Cm.LV.ownP.injEq) <| And.intro (@Go.Cm.Ty.cells.eq_1) <| And.intro (@Go.Cm.Ty.cells.eq_2) <| And.intro (@Go.Cm.Ty.cells.eq_3) <| And.intro (@Go.Cm.Ty.cells.eq_4) <| And.intro (@Go.Cm.Ty.cells.eq_5) <| And.intro (@Go.Cm.Ty.cells.eq_6) <| And.intro (@Go.Cm.Ty.cells.eq_7) <| And.intro (@Go.Cm.Ty.cells.eq_8) <| And.intro (@Go.Cm.Ty.cells.eq_9) <| And.intro (@Go.Cm.Ty.cells.eq_10) <| And.intro (@List.cons_append.{0}) <| And.intro (@List.nil_append.{0}) <| And.intro (@Go.Cm.LV.fn.injEq) <| And.intro (@Go.Cm.Ty.join.eq_1) <| And.intro (@Go.Cm.Ty.join.eq_2) <| And.intro (@Go.Cm.Ty.join.eq_3) <| And.intro (@Go.Cm.Ty.join.eq_4) <| And.intro (@Go.Cm.Ty.join.eq_5) <| And.intro (@Go.Cm.Ty.join.eq_6) <| And.intro (@Go.Cm.Ty.join.eq_7) <| And.intro (@Go.Cm.Ty.join.eq_8) <| And.intro (@Go.Cm.Ty.join.eq_9) <| And.intro (@Go.Cm.Ty.join.eq_10) <| And.intro (@Go.Cm.Ty.join.eq_11) <| And.intro (@Go.Cm.Ty.isAgg.eq_1) <| And.intro (@Go.Cm.Ty.isAgg.eq_2) <| And.intro (@Go.Cm.Ty.isAgg.eq_3) <| And.intro (@List.cons.injEq.{0}) <| And.intro (@List.toList_toArray.{0}) <| And.intro (@List.contains_nil.{0}) <| And.intro (@List.contains_cons.{0}) <| And.intro (@List.map_nil.{0, 0}) <| And.intro (@List.map_cons.{0, 0}) <| And.intro (@List.append_nil.{0}) <| @List.flatMap_nil.{0, 0}
def ml1 := And.intro (@List.flatMap_cons.{0, 0}) <| And.intro (@List.isEmpty_nil.{0}) <| And.intro (@List.length_cons.{0}) <| And.intro (@List.length_nil.{0}) <| And.intro (@List.getElem?_cons_zero.{0}) <| And.intro (@List.getElem?_cons_succ.{0}) <| And.intro (@List.getElem?_nil.{0}) <| And.intro (@List.all_nil.{0}) <| And.intro (@List.all_cons.{0}) <| And.intro (@List.any_nil.{0}) <| And.intro (@List.any_cons.{0}) <| And.intro (@List.drop_zero.{0}) <| And.intro (@List.take_zero.{0}) <| And.intro (@List.drop_succ_cons.{0}) <| And.intro (@List.take_succ_cons.{0}) <| And.intro (@List.drop_nil.{0}) <| And.intro (@List.take_nil.{0}) <| And.intro (@Option.map_some.{0, 0}) <| And.intro (@Option.map_none.{0, 0}) <| And.intro (@Option.isSome_some.{0}) <| And.intro (@Option.isSome_none.{0}) <| And.intro (@Option.getD_some.{0}) <| And.intro (@Option.getD_none.{0}) <| And.intro (@Option.isNone_none.{0}) <| And.intro (@Option.isNone_some.{0}) <| And.intro (@Bool.not_false) <| And.intro (@Bool.not_true) <| And.intro (@Bool.and_true) <| And.intro (@Bool.true_and) <| And.intro (@Bool.and_false) <| And.intro (@Bool.false_and) <| And.intro (@Bool.or_false) <| And.intro (@Bool.false_or) <| And.intro (@Bool.or_true) <| And.intro (@Bool.true_or) <| And.intro (@Nat.lt_irrefl) <| And.intro (@Nat.lt_add_one) <| And.intro (@decide_true) <| And.intro (@decide_false) <| And.intro (@ite_true.{1}) <| And.intro (@ite_true.{0}) <| And.intro (@ite_false.{1}) <| And.intro (@ite_false.{0}) <| And.intro (@dite_true.{1}) <| And.intro (@dite_true.{0}) <| And.intro (@dite_false.{1}) <| And.intro (@dite_false.{0}) <| And.intro (@beq_self_eq_true.{0}) <| And.intro (@bne_self_eq_false.{0}) <| And.intro (@eq_self.{1}) <| And.intro (@eq_self.{0}) <| And.intro (@true_and) <| And.intro (@and_true) <| And.intro (@if_true.{1}) <| And.intro (@if_true.{0}) <| And.intro (@if_false.{1}) <| And.intro (@if_false.{0}) <| And.intro (@true_implies) <| And.intro (@false_implies) <| And.intro (@implies_true.{1}) <| And.intro (@implies_true.{0}) <| And.intro (@Bool.false_eq_true) <| And.intro (@Bool.true_eq_false) <| And.intro (@not_false_eq_true) <| And.intro (@not_true_eq_false) <| And.intro (@Prod.mk.injEq.{0, 0}) <| And.intro (@and_self) <| And.intro (@Nat.zero_add) <| And.intro (@Nat.add_zero) <| And.intro (@Array.size_empty.{0}) <| And.intro (@List.size_toArray.{0}) <| And.intro (@Nat.le_refl) <| And.intro (@BEq.rfl.{0}) <| And.intro (@Go.Cm.Ty.int.injEq) <| And.intro (@Go.Cm.Ty.slice.injEq) <| And.intro (@Go.Cm.Ty.ptr.injEq) <| And.intro (@Go.Cm.Ty.st.injEq) <| And.intro (@Go.Cm.Ty.pair.injEq) <| And.intro (@Go.Cm.Ty.arr.injEq) <| And.intro (@Go.Cm.Ty.opt.injEq) <| And.intro (@false_and) <| @and_false
def mr0 := And.intro (@Go.Cm.Ty.cells.eq_1) <| And.intro (@Go.Cm.Ty.cells.eq_2) <| And.intro (@Go.Cm.Ty.cells.eq_3) <| And.intro (@Go.Cm.Ty.cells.eq_4) <| And.intro (@Go.Cm.Ty.cells.eq_5) <| And.intro (@Go.Cm.Ty.cells.eq_6) <| And.intro (@Go.Cm.Ty.cells.eq_7) <| And.intro (@Go.Cm.Ty.cells.eq_8) <| And.intro (@Go.Cm.Ty.cells.eq_9) <| And.intro (@Go.Cm.Ty.cells.eq_10) <| And.intro (@Go.Cm.EndsAt.eq_1) <| And.intro (@Go.Cm.AState.freezeAll.eq_1) <| And.intro (@Go.Cm.AState.freezeAll.eq_2) <| And.intro (@Go.Cm.AState.freeze.eq_1) <| And.intro (@Go.Cm.mapEnv.eq_1) <| And.intro (@Go.Cm.mapEnv.eq_2) <| And.intro (@Go.Cm.mapOwn.eq_1) <| And.intro (@Go.Cm.mapOwn.eq_2) <| And.intro (@Go.Cm.AV.map.eq_1) <| And.intro (@Go.Cm.AV.map.eq_2) <| And.intro (@Go.Cm.AV.map.eq_3) <| And.intro (@Go.Cm.AV.map.eq_4) <| And.intro (@Go.Cm.AV.map.eq_5) <| And.intro (@Go.Cm.OObj.map.eq_1) <| And.intro (@Go.Cm.OObj.map.eq_2) <| And.intro (@Go.Cm.OObj.map.eq_3) <| And.intro (@Go.Cm.LV.thaw.eq_1) <| And.intro (@Go.Cm.LV.thaw.eq_2) <| And.intro (@Go.Cm.LV.kill.eq_1) <| And.intro (@Go.Cm.LV.isOf.eq_1) <| And.intro (@Go.Cm.LV.isOf.eq_2) <| And.intro (@Go.Cm.LV.isOf.eq_3) <| And.intro (@Go.Cm.LV.isOf.eq_4) <| And.intro (@Go.Cm.LV.isOf.eq_5) <| And.intro (@Go.Cm.LV.isOf.eq_6) <| And.intro (@List.cons.injEq.{0}) <| And.intro (@Go.Cm.get?.eq_1) <| And.intro (@Go.Cm.get?.eq_2) <| And.intro (@Go.Cm.del.eq_1) <| And.intro (@Go.Cm.del.eq_2) <| And.intro (@Go.Cm.upd.eq_1) <| And.intro (@Go.Cm.upd.eq_2) <| And.intro (@Go.Cm.Ends.eq_1) <| And.intro (@Go.Cm.Ends.eq_2) <| And.intro (@Go.Cm.Ends.eq_3) <| And.intro (@Go.Cm.resAt.eq_1) <| And.intro (@Go.Cm.resAt.eq_2) <| And.intro (@Go.Cm.resAt.eq_3) <| And.intro (@Go.Cm.resAV.eq_1) <| And.intro (@Go.Cm.resAV.eq_2) <| And.intro (@Go.Cm.resIds.eq_1) <| And.intro (@Go.Cm.resIds.eq_2) <| And.intro (@Go.Cm.resIds.eq_3) <| And.intro (@Go.Cm.resIds.eq_4) <| And.intro (@Go.Cm.resIds.eq_5) <| And.intro (@Go.Cm.resGet_z) <| And.intro (@Go.Cm.resGet.eq_1) <| And.intro (@Go.Cm.resGet.eq_2) <| And.intro (@Go.Cm.resGet.eq_3) <| And.intro (@Go.Cm.resGet.eq_4) <| And.intro (@Go.Cm.resGet.eq_5) <| And.intro (@Go.Cm.resGet.eq_6) <| And.intro (@Go.Cm.resGet.eq_7) <| And.intro (@Go.Cm.resGet.eq_8) <| And.intro (@Go.Cm.resGet.eq_9) <| And.intro (@Go.Cm.ioAt.eq_1) <| And.intro (@Go.Cm.ioAt.eq_2) <| And.intro (@Go.Cm.LV.get_self) <| And.intro (@Go.Cm.AV.get_self) <| And.intro (@Go.Cm.LV.get.eq_1) <| And.intro (@Go.Cm.LV.get.eq_2) <| And.intro (@Go.Cm.LV.get.eq_3) <| And.intro (@Go.Cm.LV.get.eq_4) <| And.intro (@Go.Cm.LV.get.eq_5) <| And.intro (@Go.Cm.AV.get.eq_1) <| And.intro (@Go.Cm.AV.get.eq_2) <| And.intro (@Go.Cm.AV.get.eq_3) <| And.intro (@Go.Cm.readCells.eq_1) <| And.intro (@Go.Cm.readCells.eq_2) <| And.intro (@Go.Cm.Ty.isAgg.eq_1) <| And.intro (@Go.Cm.Ty.isAgg.eq_2) <| And.intro (@Go.Cm.Ty.isAgg.eq_3) <| And.intro (@Go.Cm.Ty.join.eq_1) <| And.intro (@Go.Cm.Ty.join.eq_2) <| And.intro (@Go.Cm.Ty.join.eq_3) <| And.intro (@Go.Cm.Ty.join.eq_4) <| And.intro (@Go.Cm.Ty.join.eq_5) <| And.intro (@Go.Cm.Ty.join.eq_6) <| And.intro (@Go.Cm.Ty.join.eq_7) <| And.intro (@Go.Cm.Ty.join.eq_8) <| And.intro (@Go.Cm.Ty.join.eq_9) <| And.intro (@Go.Cm.Ty.join.eq_10) <| And.intro (@Go.Cm.Ty.join.eq_11) <| And.intro (@Go.Cm.Ty.w.eq_1) <| And.intro (@Go.Cm.Ty.w.eq_2) <| And.intro (@Go.Cm.Ty.w.eq_3) <| And.intro (@Go.Cm.Ty.w.eq_4) <| And.intro (@Go.Cm.Ty.w.eq_5) <| And.intro (@Go.Cm.LV.names.eq_1) <| @Go.Cm.LV.names.eq_2
def mr1 := And.intro (@List.any_cons.{0}) <| And.intro (@List.any_nil.{0}) <| And.intro (@Option.some.injEq.{0}) <| And.intro (@List.not_mem_nil.{0}) <| And.intro (@List.mem_cons.{0}) <| And.intro (@Go.Cm.LV.io.eq_1) <| And.intro (@Go.Cm.LV.io.eq_2) <| And.intro (@Go.Cm.LV.io.eq_3) <| And.intro (@Go.Cm.LV.io.eq_4) <| And.intro (@Go.Cm.LV.io.eq_5) <| And.intro (@Go.Cm.LV.io.eq_6) <| And.intro (@Go.Cm.LV.io.eq_7) <| And.intro (@Go.Cm.OObj.io.eq_1) <| And.intro (@Go.Cm.OObj.io.eq_2) <| And.intro (@Go.Cm.CV.io.eq_1) <| And.intro (@Go.Cm.CV.io.eq_2) <| And.intro (@Go.Cm.ioB.eq_1) <| And.intro (@Go.Cm.isNilS.eq_1) <| And.intro (@Go.Cm.isNilS.eq_2) <| And.intro (@Go.Cm.OObj.leq.eq_1) <| And.intro (@Go.Cm.OObj.leq.eq_2) <| And.intro (@Go.Cm.OObj.leq.eq_3) <| And.intro (@Go.Cm.OObj.leq.eq_4) <| And.intro (@Go.Cm.leqs.eq_1) <| And.intro (@Go.Cm.leqs.eq_2) <| And.intro (@Go.Cm.leqs.eq_3) <| And.intro (@Go.Cm.LV.leq_z) <| And.intro (@Go.Cm.LV.leq.eq_1) <| And.intro (@Go.Cm.LV.leq.eq_2) <| And.intro (@Go.Cm.LV.leq.eq_3) <| And.intro (@Go.Cm.LV.leq.eq_4) <| And.intro (@Go.Cm.LV.leq.eq_5) <| And.intro (@Go.Cm.LV.leq.eq_6) <| And.intro (@Go.Cm.LV.leq.eq_7) <| And.intro (@Go.Cm.LV.leq.eq_8) <| And.intro (@Go.Cm.CV.known.eq_1) <| And.intro (@Go.Cm.CV.known.eq_2) <| And.intro (@Go.Cm.AV.leq.eq_1) <| And.intro (@Go.Cm.AV.leq.eq_2) <| And.intro (@Go.Cm.AV.leq.eq_3) <| And.intro (@Go.Cm.AV.leq.eq_4) <| And.intro (@Go.Cm.AV.leq.eq_5) <| And.intro (@Go.Cm.AV.leq.eq_6) <| And.intro (@Go.Cm.AV.leq.eq_7) <| And.intro (@Go.Cm.AV.leq.eq_8) <| And.intro (@Go.Cm.AV.leq.eq_9) <| And.intro (@Go.Cm.AV.leq.eq_10) <| And.intro (@Go.Cm.AV.leq.eq_11) <| And.intro (@not_or) <| And.intro (@List.mem_singleton.{0}) <| And.intro (@Go.Cm.Ty.fields.eq_1) <| And.intro (@Go.Cm.Ty.fields.eq_2) <| And.intro (@Go.Cm.Ty.fields.eq_3) <| And.intro (@List.toList_toArray.{0}) <| And.intro (@List.contains_nil.{0}) <| And.intro (@List.contains_cons.{0}) <| And.intro (@List.map_nil.{0, 0}) <| And.intro (@List.map_cons.{0, 0}) <| And.intro (@List.append_nil.{0}) <| And.intro (@List.nil_append.{0}) <| And.intro (@List.cons_append.{0}) <| And.intro (@List.flatMap_nil.{0, 0}) <| And.intro (@List.flatMap_cons.{0, 0}) <| And.intro (@List.isEmpty_nil.{0}) <| And.intro (@List.length_cons.{0}) <| And.intro (@List.length_nil.{0}) <| And.intro (@List.getElem?_cons_zero.{0}) <| And.intro (@List.getElem?_cons_succ.{0}) <| And.intro (@List.getElem?_nil.{0}) <| And.intro (@List.all_nil.{0}) <| And.intro (@List.all_cons.{0}) <| And.intro (@List.drop_zero.{0}) <| And.intro (@List.take_zero.{0}) <| And.intro (@List.drop_succ_cons.{0}) <| And.intro (@List.take_succ_cons.{0}) <| And.intro (@List.drop_nil.{0}) <| And.intro (@List.take_nil.{0}) <| And.intro (@Option.map_some.{0, 0}) <| And.intro (@Option.map_none.{0, 0}) <| And.intro (@Option.isSome_some.{0}) <| And.intro (@Option.isSome_none.{0}) <| And.intro (@Option.getD_some.{0}) <| And.intro (@Option.getD_none.{0}) <| And.intro (@Option.isNone_none.{0}) <| And.intro (@Option.isNone_some.{0}) <| And.intro (@Bool.not_false) <| And.intro (@Bool.not_true) <| And.intro (@Bool.and_true) <| And.intro (@Bool.true_and) <| And.intro (@Bool.and_false) <| And.intro (@Bool.false_and) <| And.intro (@Bool.or_false) <| And.intro (@Bool.false_or) <| And.intro (@Bool.or_true) <| And.intro (@Bool.true_or) <| And.intro (@Nat.lt_irrefl) <| And.intro (@Nat.lt_add_one) <| And.intro (@decide_true) <| And.intro (@decide_false) <| @ite_true.{1}
def mr2 := And.intro (@ite_true.{0}) <| And.intro (@ite_false.{1}) <| And.intro (@ite_false.{0}) <| And.intro (@dite_true.{1}) <| And.intro (@dite_true.{0}) <| And.intro (@dite_false.{1}) <| And.intro (@dite_false.{0}) <| And.intro (@beq_self_eq_true.{0}) <| And.intro (@bne_self_eq_false.{0}) <| And.intro (@eq_self.{1}) <| And.intro (@eq_self.{0}) <| And.intro (@true_and) <| And.intro (@and_true) <| And.intro (@if_true.{1}) <| And.intro (@if_true.{0}) <| And.intro (@if_false.{1}) <| And.intro (@if_false.{0}) <| And.intro (@true_implies) <| And.intro (@false_implies) <| And.intro (@implies_true.{1}) <| And.intro (@implies_true.{0}) <| And.intro (@Bool.false_eq_true) <| And.intro (@Bool.true_eq_false) <| And.intro (@not_false_eq_true) <| And.intro (@not_true_eq_false) <| And.intro (@Prod.mk.injEq.{0, 0}) <| And.intro (@and_self) <| And.intro (@Nat.zero_add) <| And.intro (@Nat.add_zero) <| And.intro (@Array.size_empty.{0}) <| And.intro (@List.size_toArray.{0}) <| And.intro (@Nat.le_refl) <| And.intro (@BEq.rfl.{0}) <| And.intro (@Go.Cm.Ty.int.injEq) <| And.intro (@Go.Cm.Ty.slice.injEq) <| And.intro (@Go.Cm.Ty.ptr.injEq) <| And.intro (@Go.Cm.Ty.st.injEq) <| And.intro (@Go.Cm.Ty.pair.injEq) <| And.intro (@Go.Cm.Ty.arr.injEq) <| And.intro (@Go.Cm.Ty.opt.injEq) <| And.intro (@false_and) <| @and_false
end Go.Cm
end

section
/- The rules of proof with their computations filled in. -/
namespace Go.Cm
section
variable {X : Cx} {s s' : AState} {K : Exit → AState → Prop}

theorem q_region {id : Nat} {ops : Array Oper} {C : Prop} (hG : MGood X.P X.T) (hC : C) (hK : K .normal s') (he : exec X.T ops.toList ops.toList s = some (C, s') := by simp only [hT, hX, Go.Cm.mx0, Go.Cm.mx1, Go.Cm.mx2, Go.Cm.mx3, Go.Cm.mx4, Go.Cm.mx5, Go.Cm.effOp, Go.Cm.endCall, Go.Cm.callOp, Go.Cm.appendOp, Go.Cm.sliceLV, Go.Cm.Ty.fieldTy, Go.Cm.Ty.fieldOf, Nat.reduceLT, Nat.reduceEqDiff, Nat.reduceAdd, Nat.reduceMul, Nat.reduceSub, Nat.reduceLeDiff, Nat.reduceBEq, Nat.reduceBNe, reduceIte, reduceDIte, reduceCtorEq]; rfl) : J X (.region id ops false) s K := r_region hG he hC hK
theorem q_draw {id : Nat} {ops : Array Oper} {C : Prop} {recs : List Rec} (hG : MGood X.P X.T) (hC : C) (hK : K .normal s') (he : trace X.T ops.toList ops.toList s = some (C, s', recs) := by simp only [hT, Go.Cm.mt0, hX, Go.Cm.mx0, Go.Cm.mx1, Go.Cm.mx2, Go.Cm.mx3, Go.Cm.mx4, Go.Cm.mx5, Go.Cm.effOp, Go.Cm.endCall, Go.Cm.callOp, Go.Cm.appendOp, Go.Cm.sliceLV, Go.Cm.Ty.fieldTy, Go.Cm.Ty.fieldOf, Nat.reduceLT, Nat.reduceEqDiff, Nat.reduceAdd, Nat.reduceMul, Nat.reduceSub, Nat.reduceLeDiff, Nat.reduceBEq, Nat.reduceBNe, reduceIte, reduceDIte, reduceCtorEq]; rfl) (ho : okOrder ops.toList recs = true := by kernel_rfl)
    (hf : (recs.flatMap Rec.news).all (fun x => !s.refs.contains x) = true := by rfl) (hd : (distinct (s'.env.map Prod.fst) && distinct (s'.own.map Prod.fst)) = true := by rfl) : J X (.region id ops true) s K := r_draw hG he ho hf hd hC hK
theorem q_region' {id : Nat} {ops : Array Oper} {C : Prop} (hG : MGood X.P X.T) (hC : C) (hK : K .normal s') (he : exec X.T ops.toList ops.toList s = some (C, s') := by simp only [hT', hX, Go.Cm.mx0, Go.Cm.mx1, Go.Cm.mx2, Go.Cm.mx3, Go.Cm.mx4, Go.Cm.mx5, Go.Cm.effOp, Go.Cm.endCall, Go.Cm.callOp, Go.Cm.appendOp, Go.Cm.sliceLV, Go.Cm.Ty.fieldTy, Go.Cm.Ty.fieldOf, Nat.reduceLT, Nat.reduceEqDiff, Nat.reduceAdd, Nat.reduceMul, Nat.reduceSub, Nat.reduceLeDiff, Nat.reduceBEq, Nat.reduceBNe, reduceIte, reduceDIte, reduceCtorEq]; rfl) : J X (.region id ops false) s K := r_region hG he hC hK
theorem q_draw' {id : Nat} {ops : Array Oper} {C : Prop} {recs : List Rec} (hG : MGood X.P X.T) (hC : C) (hK : K .normal s') (he : trace X.T ops.toList ops.toList s = some (C, s', recs) := by simp only [hT', Go.Cm.mt0, hX, Go.Cm.mx0, Go.Cm.mx1, Go.Cm.mx2, Go.Cm.mx3, Go.Cm.mx4, Go.Cm.mx5, Go.Cm.effOp, Go.Cm.endCall, Go.Cm.callOp, Go.Cm.appendOp, Go.Cm.sliceLV, Go.Cm.Ty.fieldTy, Go.Cm.Ty.fieldOf, Nat.reduceLT, Nat.reduceEqDiff, Nat.reduceAdd, Nat.reduceMul, Nat.reduceSub, Nat.reduceLeDiff, Nat.reduceBEq, Nat.reduceBNe, reduceIte, reduceDIte, reduceCtorEq]; rfl) (ho : okOrder ops.toList recs = true := by kernel_rfl)
    (hf : (recs.flatMap Rec.news).all (fun x => !s.refs.contains x) = true := by rfl) (hd : (distinct (s'.env.map Prod.fst) && distinct (s'.own.map Prod.fst)) = true := by rfl) : J X (.region id ops true) s K := r_draw hG he ho hf hd hC hK
theorem q_cond {c : Operand} {x y : Code} {t : Bool} (h1 : t = true → J X x s K) (h2 : t = false → J X y s K) (hc : leaf (opnd s c) = some (.z .bool t) := by simp only [Go.Cm.mx0, Go.Cm.mx1, Go.Cm.mx2, Go.Cm.mx3, Go.Cm.mx4, Go.Cm.mx5, Go.Cm.effOp, Go.Cm.endCall, Go.Cm.callOp, Go.Cm.appendOp, Go.Cm.sliceLV, Go.Cm.Ty.fieldTy, Go.Cm.Ty.fieldOf, Nat.reduceLT, Nat.reduceEqDiff, Nat.reduceAdd, Nat.reduceMul, Nat.reduceSub, Nat.reduceLeDiff, Nat.reduceBEq, Nat.reduceBNe, reduceIte, reduceDIte, reduceCtorEq]; rfl) : J X (.cond c x y) s K := r_cond hc h1 h2
end
end Go.Cm
end

section
/- The library's iterator from the last element of a slice to the first: its contract. -/
namespace Go.Proofs
open Go.RowKit Go.Cm Go.Shelf

attribute [local go_sem] Oper.semAt_some

def backItem (xs : List Int) (k : Nat) : List LV := [.z (.int .i64) ((xs.length : Int) - 1 - k), .z (.int .u32) (xs.getD (xs.length - 1 - k) 0)]
def backItems (xs : List Int) : List (List LV) := (List.range xs.length).map (backItem xs)

def KpB (b1 b2 : Nat) (A B : World) : Prop := ∀ b, (b = b1 ∨ b = b2) → B.heap[b]? = A.heap[b]?

set_option maxRecDepth 100000 in
set_option maxHeartbeats 2000000 in
theorem back_in (F : Fence) (h7 : F.fn 82) (hro : F.round = none) (l Bs oB b off len cap : Nat) (xs : List Int) (hlen : xs.length = len) (hbig : len ≤ maxLen) (J : Nat → World → Prop) (Jx : World → Prop) (Kp : World → World → Prop)
    (W : World) (hBs : W.cell? ⟨Bs, oB, none⟩ = some (.slice (some ⟨b, off, none⟩) len cap)) (hc : ∀ j, j < len → W.cell? ⟨b, off + j, none⟩ = some (.int .u32 (xs.getD j 0)))
    (hKp : ∀ A B, Kp A B → (∃ o : Obj, A.heap[Bs]? = some o ∧ o.isCells = true) → ((0 < len) → ∃ o : Obj, A.heap[b]? = some o ∧ o.isCells = true) → B.heap[Bs]? = A.heap[Bs]? ∧ (0 < len → B.heap[b]? = A.heap[b]?))
    (hY : ∀ k W1, J k W1 → k < len → YieldAt F 0 Tryz.prog l #[.int .i64 ((len : Int) - 1 - k), .int .u32 (xs.getD (len - 1 - k) 0)] W1 fun e W' => (e = .returned (.bool true) ∧ J (k + 1) W' ∧ Kp W1 W') ∨ (e = .returned (.bool false) ∧ Jx W'))
    (h0 : J 0 W) :
    CallsIn F 1 Tryz.prog 82 #[.func (.yield l) #[] #[], .pointer (some ⟨Bs, oB, none⟩)] W fun e W' => (∃ v, e = .returned v) ∧ (J len W' ∨ Jx W') := by
  unfold maxLen at hbig
  refine callsIn_of_wp Tryz.func82 rfl h7 ?_ hro
  simp only [Tryz.ntmps82, List.size_toArray, List.length_cons, List.length_nil, Nat.reduceAdd, Nat.reduceSub, Array.replicate_succ, Array.replicate_zero, List.push_toArray, List.append_toArray, List.nil_append, List.cons_append]
  gi_wp2
  gi_loopw [3] (fun i wr => ∃ k : Nat, k ≤ len ∧ i = .int .i64 ((len : Int) - 1 - k) ∧ J k wr ∧ wr.heap[Bs]? = W.heap[Bs]? ∧ (0 < len → wr.heap[b]? = W.heap[b]?))
    (fun i _ => (intOf i + 1).toNat)
  case atStart => exact ⟨0, Nat.zero_le _, by simp, h0, rfl, fun _ => rfl⟩
  case round =>
    obtain ⟨k, hk, rfl, hJs, hn1, hn2⟩ := hrel
    have hB1 : wr.cell? ⟨Bs, oB, none⟩ = some (.slice (some ⟨b, off, none⟩) len cap) := (World.cell?_of_block (a := ⟨Bs, oB, none⟩) hn1).trans hBs
    by_cases hlt : k < len
    · have hge : 0 ≤ (len : Int) - 1 - k := by omega
      have htn : ((len : Int) - 1 - k).toNat = len - 1 - k := by omega
      have hup : (len : Int) - 1 - k < len := by omega
      have hcx : wr.cell? ⟨b, off + (len - 1 - k), none⟩ = some (.int .u32 (xs.getD (len - 1 - k) 0)) := (World.cell?_of_block (a := ⟨b, off + (len - 1 - k), none⟩) (hn2 (by omega))).trans (hc _ (by omega))
      have hcB : ∃ o : Obj, wr.heap[Bs]? = some o ∧ o.isCells = true := cells_of_cell hB1
      have hcb : ∃ o : Obj, wr.heap[b]? = some o ∧ o.isCells = true := cells_of_cell hcx
      obtain ⟨fn, tmps, assign, body, hy, hR⟩ := hY k wr hJs hlt
      generalize xs.getD (len - 1 - k) 0 = x at *
      gi_wp2
      refine hR.mono ?_
      rintro e W3 (⟨rfl, hJ3, hk3⟩ | ⟨rfl, hJx3⟩)
      · obtain ⟨e1, e2⟩ := hKp _ _ hk3 hcB (fun _ => hcb)
        gi_wp2
        go_roundw
        case rel => exact ⟨k + 1, by omega, by congr 1; omega, hJ3, e1.trans hn1, fun h => (e2 h).trans (hn2 h)⟩
        case measure => simp [intOf]; omega
      · gi_wp2
        refine bodyPost_ret (results_none rfl _ _ _) rfl ?_
        exact ⟨⟨_, rfl⟩, .inr hJx3⟩
    · have hk2 : k = len := by omega
      have hng : ¬ 0 ≤ (len : Int) - 1 - k := by omega
      rw [hk2] at hJs
      clear hk2
      gi_wp2
      go_end0
      exact ⟨⟨_, rfl⟩, .inl hJs⟩

set_option maxRecDepth 100000 in
set_option maxHeartbeats 2000000 in
theorem back_nil (F : Fence) (h7 : F.fn 82) (hro : F.round = none) (l Bs oB : Nat) (J : World → Prop) (W : World) (a : Option Addr) (cap : Nat) (hBs : W.cell? ⟨Bs, oB, none⟩ = some (.slice a 0 cap)) (h0 : J W) :
    CallsIn F 1 Tryz.prog 82 #[.func (.yield l) #[] #[], .pointer (some ⟨Bs, oB, none⟩)] W fun e W' => (∃ v, e = .returned v) ∧ J W' := by
  refine callsIn_of_wp Tryz.func82 rfl h7 ?_ hro
  simp only [Tryz.ntmps82, List.size_toArray, List.length_cons, List.length_nil, Nat.reduceAdd, Nat.reduceSub, Array.replicate_succ, Array.replicate_zero, List.push_toArray, List.append_toArray, List.nil_append, List.cons_append]
  gi_wp2
  gi_loopw [3] (fun i wr => i = .int .i64 (-1) ∧ wr = W) (fun i _ => (intOf i + 1).toNat)
  case atStart => exact ⟨rfl, rfl⟩
  case round =>
    obtain ⟨rfl, rfl⟩ := hrel
    gi_wp2
    go_end0
    exact ⟨⟨_, rfl⟩, h0⟩

theorem cells_of_lies {H : Nat → Prop} {w : World} {b o : Nat} {c : Value} (h : LiesAt H w b o [c]) : w.cell? ⟨b, o, none⟩ = some c ∧ b < w.heap.size ∧ ¬ H b :=
  ⟨by have := h.2 0 (by simp); simpa using this, h.lt (by simp), h.1 (by simp)⟩

theorem seq_back (xs : List Int) : SeqValid Tryz.prog 82 2 [.z (.ptr (.slice (.int .u32))) xs] (backItems xs) := by
  refine ⟨enters_of Tryz.func82 (by kernel_rfl) rfl, ?_, ?_⟩
  · intro it hit
    obtain ⟨k, _, rfl⟩ := List.mem_map.1 hit
    exact ⟨rfl, rfl⟩
  · intro H w lb hH hcap
    obtain ⟨v, rfl⟩ : ∃ v, lb = [v] := by
      match lb, hcap with
      | [v], _ => exact ⟨v, rfl⟩
      | _ :: _ :: _, h => exact h.2.elim
    obtain ⟨hag, bB, oB, cells, hv, hsl, hlies⟩ := hcap.1
    have hv2 : v = .pointer (some ⟨bB, oB, none⟩) := by
      have hone := cells_one (v := v) (by cases v <;> first | rfl | (simp [Ty.isAgg] at hag))
      rw [hone] at hv; simpa using hv
    subst hv2
    refine ⟨fun k => #[.int .i64 ((xs.length : Int) - 1 - k), .int .u32 (xs.getD (xs.length - 1 - k) 0)], fun k hk => ?_, ?_⟩
    · simp only [backItems, List.getElem_map, List.getElem_range]
      exact ⟨rep_int (ρ := fun _ => undef), rep_int (ρ := fun _ => undef), trivial⟩
    · intro l J Jx W hb _ _ hY h0
      have hlen : (backItems xs).length = xs.length := by simp [backItems]
      rw [hlen] at hY ⊢
      rcases hsl with ⟨rfl, rfl⟩ | ⟨b, o, p, cap, cs, rfl, hp, h1, h2, h3, h4⟩
      · obtain ⟨c1, c2, c3⟩ := cells_of_lies hlies
        exact (back_nil (fw none) trivial rfl l bB oB (J 0) W none 0 ((hb.cell (p := ⟨bB, oB, none⟩) c2).trans c1) h0).mono (fun e W' h => ⟨h.1, .inl h.2⟩)
      · obtain ⟨c1, c2, c3⟩ := cells_of_lies hlies
        by_cases hnil : xs = []
        · subst hnil
          exact (back_nil (fw none) trivial rfl l bB oB (J 0) W (some ⟨b, o, p⟩) cap ((hb.cell (p := ⟨bB, oB, none⟩) c2).trans c1) h0).mono (fun e W' h => ⟨h.1, .inl h.2⟩)
        obtain rfl := hp hnil
        have hcs := rep_ints h3
        have hne : 0 < xs.length → cs ≠ [] := fun h e => by rw [hcs] at e; simp at e; subst e; simp at h
        refine back_in (fw none) trivial rfl l bB oB b o xs.length cap xs rfl (Nat.le_trans h1 h2) J Jx (KpOf H w.heap.size) W ((hb.cell (p := ⟨bB, oB, none⟩) c2).trans c1) (fun j hj => ?_) (fun A B hk hA1 hA2 => ⟨hk bB c2 c3 hA1, fun h => hk b (h4.lt (hne h)) (h4.1 (hne h)) (hA2 h)⟩) hY h0
        have hj' : j < cs.length := by rw [hcs]; simpa using hj
        rw [hb.cell (p := ⟨b, o + j, none⟩) (h4.lt (hne (by omega))), h4.2 j hj', hcs, List.getElem?_map, List.getElem?_eq_getElem hj]
        simp [List.getD_eq_getElem?_getD, List.getElem?_eq_getElem hj]

end Go.Proofs
end

section
/- The types of the program that are data. -/
namespace Go.Proofs.YtkgbdpmhdplddaaGreatDoor
open Go Go.Cm Go.Proofs
set_option maxRecDepth 100000

theorem ty2 : TyOK Tryz.prog 2 (.int .i64) := ty_int (by kernel_rfl) (by kernel_rfl)
theorem ty3 : TyOK Tryz.prog 3 (.int .i64) := ty_int (by kernel_rfl) (by kernel_rfl)
theorem ty4 : TyOK Tryz.prog 4 .bool := ty_bool (by kernel_rfl) (by kernel_rfl)
theorem ty5 : TyOK Tryz.prog 5 (.int .u8) := ty_int (by kernel_rfl) (by kernel_rfl)
theorem ty9 : TyOK Tryz.prog 9 .str := ty_str (by kernel_rfl) (by kernel_rfl)
theorem ty22 : TyOK Tryz.prog 22 (.slice (.int .u8)) := ty_slice (E := 5) (by kernel_rfl) (by kernel_rfl) (by kernel_rfl) (by kernel_rfl) (.inr rfl)
theorem ty24 : TyOK Tryz.prog 24 (.st (.pair .bool (.pair (.slice (.int .u8)) (.int .u8)))) := ty_st (by kernel_rfl) (by kernel_rfl)
theorem ty28 : TyOK Tryz.prog 28 (.arr 4 .str) := ty_arr (E := 9) (by kernel_rfl) (by kernel_rfl) (by kernel_rfl) (by kernel_rfl) (.inr rfl)
theorem ty29 : TyOK Tryz.prog 29 (.int .i64) := ty_int (by kernel_rfl) (by kernel_rfl)
theorem ty37 : TyOK Tryz.prog 37 (.arr 2 .str) := ty_arr (E := 9) (by kernel_rfl) (by kernel_rfl) (by kernel_rfl) (by kernel_rfl) (.inr rfl)
theorem ty38 : TyOK Tryz.prog 38 (.arr 4 (.arr 2 .str)) := ty_arr (E := 37) (by kernel_rfl) (by kernel_rfl) (by kernel_rfl) (by kernel_rfl) (.inl rfl)
theorem ty50 : TyOK Tryz.prog 50 (.arr 5 .str) := ty_arr (E := 9) (by kernel_rfl) (by kernel_rfl) (by kernel_rfl) (by kernel_rfl) (.inr rfl)
theorem ty57 : TyOK Tryz.prog 57 (.slice (.st (.pair .bool (.slice (.int .u32))))) := ty_slice (E := 63) (by kernel_rfl) (by kernel_rfl) (by kernel_rfl) (by kernel_rfl) (.inl rfl)
theorem ty61 : TyOK Tryz.prog 61 (.slice (.int .u32)) := ty_slice (E := 89) (by kernel_rfl) (by kernel_rfl) (by kernel_rfl) (by kernel_rfl) (.inr rfl)
theorem ty63 : TyOK Tryz.prog 63 (.st (.pair .bool (.slice (.int .u32)))) := ty_st (by kernel_rfl) (by kernel_rfl)
theorem ty76 : TyOK Tryz.prog 76 (.slice (.int .i64)) := ty_slice (E := 3) (by kernel_rfl) (by kernel_rfl) (by kernel_rfl) (by kernel_rfl) (.inr rfl)
theorem ty84 : TyOK Tryz.prog 84 (.slice .str) := ty_slice (E := 9) (by kernel_rfl) (by kernel_rfl) (by kernel_rfl) (by kernel_rfl) (.inr rfl)
theorem ty89 : TyOK Tryz.prog 89 (.int .u32) := ty_int (by kernel_rfl) (by kernel_rfl)
theorem ty91 : TyOK Tryz.prog 91 (.int .u64) := ty_int (by kernel_rfl) (by kernel_rfl)

end Go.Proofs.YtkgbdpmhdplddaaGreatDoor
end

section
/- The texts of machine integers. No program is in sight here. -/
namespace Go.Cm
open Go.Proofs

theorem i64_bnd {n : Int} (h : I64 n) : Bnd n 20 := by
  unfold I64 at h
  unfold Bnd
  have : (10 : Nat) ^ 20 = 100000000000000000000 := by decide
  omega

theorem okt_of {n : Int} {k : Nat} (h : Bnd n k) (hk : k ≤ 2000) : OKT (Lib.itoa n) n := by
  have h1 := itoa_facts n
  have h2 := h.digs hk
  exact ⟨by rw [h1.1, if_neg (by omega)], h1.2⟩

theorem okt_i64 {n : Int} (h : I64 n) : OKT (Lib.itoa n) n := okt_of (i64_bnd h) (by decide)

theorem int_okt {s : List UInt8} {n : Int} (h : OKT s n) (hn : I64 n) : intV s = n ∧ intE s = 0 ∧ chk s = 0 := by
  have hb : inI64 n = true := by unfold inI64; unfold I64 at hn; simp [hn.1, hn.2]
  unfold intV intE
  rw [h.c, h.v, hb]
  simp

theorem three_i64 {l : List Int} (h : ∀ x ∈ l, I64 x) {k : Nat} (hk : k < l.length) : I64 (nth (.int .i64) l (k : Int)) := by
  unfold nth
  rw [Int.toNat_natCast, List.getD_eq_getElem?_getD, List.getElem?_eq_getElem hk]
  exact h _ (List.getElem_mem hk)

/-- Comparing, told by the order. -/
theorem cmp_law (n m : Int) : (decide (cmpI n m < 0) = decide (n < m)) ∧ (decide (0 < cmpI n m) = decide (m < n)) ∧ ¬ (cmpI n m < -1) ∧ ¬ (1 < cmpI n m) := by
  unfold cmpI
  split
  · simp [*]; omega
  · split <;> simp [*] <;> omega

theorem i32_add {a b : Int} (ha : -2147483648 ≤ a ∧ a ≤ 2147483647) (hb : -2147483648 ≤ b ∧ b ≤ 2147483647) : I64 (a + b) ∧ I64 (a - b) ∧ I64 (a * b) := by
  unfold I64
  have h1 : a * b ≤ 2147483648 * 2147483648 := by
    have := Int.natAbs_mul a b
    have h2 : a.natAbs * b.natAbs ≤ 2147483648 * 2147483648 := Nat.mul_le_mul (by omega) (by omega)
    omega
  have h3 : -(2147483648 * 2147483648) ≤ a * b := by
    have := Int.natAbs_mul a b
    have h2 : a.natAbs * b.natAbs ≤ 2147483648 * 2147483648 := Nat.mul_le_mul (by omega) (by omega)
    omega
  omega

theorem wi32 {a : Int} (ha : -2147483648 ≤ a ∧ a ≤ 2147483647) : IntKind.i64.wrap a = a := wi (by omega) (by omega)
theorem i32_i64 {a : Int} (ha : -2147483648 ≤ a ∧ a ≤ 2147483647) : I64 a := by unfold I64; omega
theorem I64.w {a : Int} (h : I64 a) : IntKind.i64.wrap a = a := wi h.1 (by have := h.2; omega)
theorem back_list {n m a : Int} (hn : I64 n) (hm : I64 m) (ha : -2147483648 ≤ a ∧ a ≤ 2147483647) : ∀ x ∈ [n, m, IntKind.i64.wrap a], I64 x := by
  intro x hx
  simp only [List.mem_cons, List.not_mem_nil, or_false] at hx
  rcases hx with rfl | rfl | rfl
  · exact hn
  · exact hm
  · rw [wi32 ha]; exact i32_i64 ha

/-- Sums and products of small numbers, as texts. -/
theorem back_law {a b v : Int} (ha : I64 a) (hb : I64 b) (hv : I64 v) : resS (chkAll [Lib.itoa a, Lib.itoa b]) v = Lib.itoa v ∧ resE (chkAll [Lib.itoa a, Lib.itoa b]) v = 0 :=
  (okt_i64 ha).is (okt_i64 hb) (okt_i64 hv) rfl

end Go.Cm
end
