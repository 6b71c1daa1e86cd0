/-
  ROWS OF BITS: whole rows, lanes, copies, and operations on single bits (for 'kmodel').
-/
import Derived.Test.YgcsagGreatRa
import Derived.Laws.CopyRow
namespace Go.Proofs.YgcsagGreat
open Go.RowKit
set_option linter.unusedVariables false
set_option linter.unusedSimpArgs false
section
variable {w0 W W' : World} {D D' : List Nat} {L L' : List (Nat × Array Value × TypeId)}
theorem KS.quiet (h : KS w0 D L W) (k : KS W [] [] W') : KS w0 D L W' := h.comp k (fun b hb => by cases hb) (fun p hp => .inr ⟨hp, by simp⟩)
theorem KS.weak (h : KS w0 [] L W) (D : List Nat) : KS w0 D L W := ⟨h.os, h.tape, h.output, h.size, fun k hk hd => h.block k hk (by simp), h.rows⟩
end
/-! ### Whole rows -/
section
variable {w : World} {g n N M : Nat} {tt : TypeId}
theorem agg241 (w : World) : (isAgg 241).run Sagg.prog w = .ok true w := by kernel_rfl
theorem size241 (w : World) : (sizeOf 241).run Sagg.prog w = .ok 1600 w := by kernel_rfl
theorem agg238 (w : World) : (isAgg 238).run Sagg.prog w = .ok true w := by kernel_rfl
theorem size238 (w : World) : (sizeOf 238).run Sagg.prog w = .ok 64 w := by kernel_rfl
theorem size264 (w : World) : (sizeOf 264).run Sagg.prog w = .ok 8 w := by kernel_rfl
theorem load_all {t : TypeId} (ha : ∀ w, (isAgg t).run Sagg.prog w = .ok true w) (hs : ∀ w, (sizeOf t).run Sagg.prog w = .ok n w) (hg : w.heap[g]? = some (.cells (rowKN n N) tt (0, 0))) : (loadVar t ⟨g, 0, none⟩).run Sagg.prog w = .ok (.agg (rowKN n N)) w :=
  load_row (ha w) (hs w) hg (by omega) (fun j _ => by rw [Nat.zero_add])
theorem row_same {N M : Nat} (h : ∀ i, i < n → tKN N i = tKN M i) : rowKN n N = rowKN n M := by
  unfold rowKN
  congr 1
  apply List.map_congr_left
  intro i hi
  rw [h i (List.mem_range.1 hi)]
theorem row_cells (k M : Nat) : (Value.agg (rowKN k M)).cells.toList = (List.range k).map fun j => Value.bool (tKN M j) := by
  simp [Value.cells, rowKN]
theorem store_full {t : TypeId} (hs : ∀ w, (sizeOf t).run Sagg.prog w = .ok n w) (hg : w.heap[g]? = some (.cells (rowKN n N) tt (0, 0))) :
    (do storeVar t ⟨g, 0, none⟩ (.agg (rowKN n M)); pure undef : Sem Value).run Sagg.prog w = .ok undef (w.setRow g (rowKN n M)) := by
  have h := store_row (f := tKN M) (hs w) (row_cells n M) hg (o := 0) (by omega)
  rw [row_same (N := iterKN (fun j c => setKN c (0 + j) (tKN M j)) N n) (M := M) (fun i hi => by rw [put_bit, if_pos (by omega)]; rfl)] at h
  exact h
/-! ### Lanes -/
def shKN (N o : Nat) : Nat := Nat.shiftRight N o
def putKN (N o M k : Nat) : Nat := iterKN (fun j c => setKN c (o + j) (tKN M j)) N k
def copyKN (N o A s k : Nat) : Nat := iterKN (fun j c => setKN c (o + j) (tKN A (s + j))) N k
theorem load_lane {o : Nat} (hg : w.heap[g]? = some (.cells (rowKN n N) tt (0, 0))) (hi : o + 64 ≤ n) : (loadVar 238 ⟨g, o, none⟩).run Sagg.prog w = .ok (.agg (rowKN 64 (shKN N o))) w :=
  load_row (agg238 w) (size238 w) hg hi (fun j _ => shr_bit N o j)
theorem store_lane {o : Nat} (hg : w.heap[g]? = some (.cells (rowKN n N) tt (0, 0))) (hi : o + 64 ≤ n) :
    (do storeVar 238 ⟨g, o, none⟩ (.agg (rowKN 64 M)); pure undef : Sem Value).run Sagg.prog w = .ok undef (w.setRow g (rowKN n (putKN N o M 64))) :=
  store_row (f := tKN M) (size238 w) (row_cells 64 M) hg hi
/-- The address of a part of a lane. -/
def adKN (o l : Nat) : Nat := if 64 = l then o else o + l
theorem slice_lo {o k : Nat} {q : IntKind} (h : k < 64) : (Instr.sliceAt 238 (.pointer (some ⟨g, o, none⟩)) (some (.int q (k : Int))) none none).run Sagg.prog w = .ok (.slice (some ⟨g, o + k, none⟩) (64 - k) (64 - k)) w := by
  have h1 : (0 : Int) ≤ (k : Int) ∧ (k : Int) ≤ 64 := by omega
  have h2 : ¬ 64 = k := by omega
  have e : (Addr.add ⟨g, o, none⟩ k) = ⟨g, o + k, none⟩ := by
    unfold Addr.add
    split
    · simp_all
    · rfl
  simp [Instr.sliceAt, run_underlying Sagg.underlying238, Instr.sureAddr, Instr.sliceBounds, Instr.sliceBound, asIntOf, h1, size4q, h2, e]
  omega
theorem slice_lo' {o l k : Nat} {q : IntKind} (h : l ≤ 64) (hk : 64 - l = k) : (Instr.sliceAt 238 (.pointer (some ⟨g, o, none⟩)) (some (.int q (l : Int))) none none).run Sagg.prog w = .ok (.slice (some ⟨g, adKN o l, none⟩) k k) w := by
  subst hk
  have h1 : (0 : Int) ≤ (l : Int) ∧ (l : Int) ≤ 64 := by omega
  have e : (Addr.add ⟨g, o, none⟩ l) = ⟨g, o + l, none⟩ := by
    unfold Addr.add
    split
    · simp_all
    · rfl
  unfold adKN
  by_cases h2 : 64 = l
  · simp [Instr.sliceAt, run_underlying Sagg.underlying238, Instr.sureAddr, Instr.sliceBounds, Instr.sliceBound, asIntOf, h1, size4q, ← h2]
  · simp [Instr.sliceAt, run_underlying Sagg.underlying238, Instr.sureAddr, Instr.sliceBounds, Instr.sliceBound, asIntOf, h1, size4q, h2, e]
    omega
theorem slice_hi {o k : Nat} {q : IntKind} (h : k ≤ 64) : (Instr.sliceAt 238 (.pointer (some ⟨g, o, none⟩)) none (some (.int q (k : Int))) none).run Sagg.prog w = .ok (.slice (some ⟨g, o, none⟩) k 64) w := by
  have h1 : (0 : Int) ≤ (k : Int) ∧ (k : Int) ≤ 64 := by omega
  simp [Instr.sliceAt, run_underlying Sagg.underlying238, Instr.sureAddr, Instr.sliceBounds, Instr.sliceBound, asIntOf, h1, size4q]
  rw [if_pos h]
  rfl
theorem copy_k {b o s s' k dl dc sl sc m A : Nat} {t2 : TypeId} (hk : k = Nat.min sl dl) (hg : w.heap[g]? = some (.cells (rowKN n N) tt (0, 0))) (hb : w.heap[b]? = some (.cells (rowKN m A) t2 (0, 0))) (h1 : o + k ≤ n) (h2 : 0 < k → s' = s) (h3 : s + k ≤ m) :
    (do match ← builtin .copy #[216, 216] 3 #[false, false] #[.slice (some ⟨g, o, none⟩) dl dc, .slice (some ⟨b, s', none⟩) sl sc] with
        | .value v => pure v
        | _ => stuck "no value" : Sem Value).run Sagg.prog w = .ok (.int .i64 (k : Int)) (w.setRow g (rowKN n (copyKN N o A s k))) := by
  have h := run_copy_row (P := Sagg.prog) w 216 216 3 4 g o dl dc ⟨b, s', none⟩ sl sc (rowKN n N) tt ((List.range k).map fun j => Value.bool (tKN A (s + j))) Sagg.underlying216 (by kernel_rfl) hg (by simp [hk]) (fun j v hv => by
    rw [List.getElem?_map] at hv
    by_cases hj : j < k
    · rw [List.getElem?_range hj] at hv
      simp at hv
      subst hv
      have e : (Addr.add ⟨b, s', none⟩ j) = ⟨b, s + j, none⟩ := by
        rw [h2 (by omega)]
        unfold Addr.add
        split
        · simp_all
        · rfl
      rw [e]
      exact cell_t hb (by omega)
    · rw [List.getElem?_eq_none (by simp; omega)] at hv
      cases hv) (by simp [rowKN_size]; omega) (fun v hv => by
    obtain ⟨j, _, rfl⟩ := List.mem_map.1 hv
    rfl)
  simp only [List.length_map, List.length_range, row_put h1] at h
  simp only [builtin, Sem.run_bind, h, Result.andThen_ok, Sem.run_pure, goInt]
  rfl
end
/-! ### Single bits -/
def bKN : Bool → Nat
  | true => 1
  | false => 0
/-- a and not b -/
def aKN (a b : Bool) : Bool := match b with
  | true => false
  | false => a
theorem gtr_b {a b : Bool} {w : World} : (binOp .gtr 5 (.int .u8 ((bKN a : Nat) : Int)) (.int .u8 ((bKN b : Nat) : Int))).run Sagg.prog w = .ok (.bool (aKN a b)) w := by
  cases a <;> cases b <;> kernel_rfl
theorem bit_calls (b : Bool) (w : World) : Calls Sagg.prog 194 #[.bool b] w fun e w' => e = .returned (.int .u8 ((bKN b : Nat) : Int)) ∧ w' = w := by
  cases b
  · refine CS_calls (Γ := GQ) {} {} (by kernel_rfl) Sagg.func194 rfl _ rfl (by kernel_rfl) ?_
    exact of_eq (p := Ending.returned (.int .u8 0) = .returned (.int .u8 ((bKN false : Nat) : Int)) ∧ w = w) (by kernel_rfl) ⟨rfl, rfl⟩
  · refine CS_calls (Γ := GQ) {} {} (by kernel_rfl) Sagg.func194 rfl _ rfl (by kernel_rfl) ?_
    exact of_eq (p := Ending.returned (.int .u8 1) = .returned (.int .u8 ((bKN true : Nat) : Int)) ∧ w = w) (by kernel_rfl) ⟨rfl, rfl⟩
end Go.Proofs.YgcsagGreat
