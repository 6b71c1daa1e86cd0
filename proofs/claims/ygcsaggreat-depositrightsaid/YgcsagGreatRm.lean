/-
  'kmodel': laws for 'Sum'.
-/
import Derived.Test.YgcsagGreatRl
import Derived.Laws.AppendOwn
import Derived.Laws.MakeOwn
namespace Go.Proofs.YgcsagGreat
open Go.RowKit
set_option linter.unusedVariables false
set_option linter.unusedSimpArgs false
section
variable {w0 W W' : World} {D : List Nat} {L : List (Nat × Array Value × TypeId)} {g : Nat}
theorem KS.allocN (h : KS w0 D L W) (r : Array Value) (t : TypeId) (hg : W.heap.size = g) : KS w0 D ((g, r, t) :: L) (W.alloc (.cells r t)) := by
  subst hg
  exact h.alloc r t
theorem ks_cell (h : KS w0 [] L W) {b o : Nat} {v : Value} (hc : w0.cell? ⟨b, o, none⟩ = some v) : W.cell? ⟨b, o, none⟩ = some v := by
  have hlt : b < w0.heap.size := by
    unfold World.cell? at hc
    split at hc
    · rename_i hx
      exact (Array.getElem?_eq_some_iff.1 hx).1
    · rename_i hx
      first | exact (Array.getElem?_eq_some_iff.1 hx).1 | cases hc
    all_goals cases hc
  have := h.block b hlt (by simp)
  unfold World.cell? at hc ⊢
  simp only at hc ⊢
  rw [this]
  exact hc
end
theorem info4m : (Sagg.prog.info? 4).map (fun i => (i.zero, i.size, i.bytes)) = some (some (.bool false), 1, 1) := by kernel_rfl
theorem info4 : ∃ i, Sagg.prog.info? 4 = some i ∧ i.size = 1 ∧ i.bytes = 1 ∧ i.zero = some (.bool false) := by
  have h := info4m
  cases hi : Sagg.prog.info? 4 with
  | none => rw [hi] at h; cases h
  | some i =>
    rw [hi] at h
    simp only [Option.map_some, Option.some.injEq, Prod.mk.injEq] at h
    exact ⟨i, rfl, h.2.1, h.2.2, h.1⟩
section
variable {w : World} {g c l N i : Nat} {b : Bool}
theorem zero_row (c : Nat) : madeCells #[.bool false] c = rowKN c 0 := by
  apply Array.ext'
  rw [toList_madeCells_one]
  unfold rowKN
  apply List.ext_getElem?
  intro j
  by_cases h : j < c
  · simp [h, tKN, Nat.shiftRight]
    rfl
  · simp [h]
theorem make_bits (hc : c ≤ 1000000) (hg : w.heap.size = g) : (Instr.makeSlice 216 (.int .i64 0) (.int .i64 (c : Int))).run Sagg.prog w = .ok (.slice (some ⟨g, 0, none⟩) 0 c) (w.alloc (.cells (rowKN c 0) 4)) := by
  subst hg
  obtain ⟨i, h1, h2, h3, h4⟩ := info4
  have := run_make (P := Sagg.prog) (w := w) 216 4 i (.bool false) Sagg.underlying216 h1 h4 .i64 .i64 0 (c : Int) (by omega) (by omega) (by rw [h3]; omega) (by omega)
  rw [h2] at this
  simp only [Int.toNat_natCast, Nat.mul_one] at this
  rw [this]
  have e : madeCells (Value.cells (.bool false)) c = rowKN c 0 := zero_row c
  rw [e]
  rfl
theorem build_one (hg : w.heap.size = g) : (Instr.buildSlice 216 1 #[(0, .bool b)]).run Sagg.prog w = .ok (.slice (some ⟨g, 0, none⟩) 1 1) (w.alloc (.cells (rowKN 1 (bKN b)) 4)) := by
  subst hg
  cases b <;> kernel_rfl
theorem bKN_bit (b : Bool) : tKN (bKN b) 0 = b := by cases b <;> rfl
theorem append_bit {q : Nat} (hg : w.heap[g]? = some (.cells (rowKN c N) 4 (0, 0))) (hq : w.heap[q]? = some (.cells (rowKN 1 (bKN b)) 4 (0, 0))) (hl : l + 1 ≤ c) :
    (do match ← builtin .append #[216, 216] 216 #[false, false] #[.slice (some ⟨g, 0, none⟩) l c, .slice (some ⟨q, 0, none⟩) 1 1] with
        | .value v => pure v
        | _ => stuck "no value" : Sem Value).run Sagg.prog w = .ok (.slice (some ⟨g, 0, none⟩) (l + 1) c) (w.setRow g (rowKN c (setKN N (0 + l) b))) := by
  obtain ⟨i, h1, h2, h3, h4⟩ := info4
  have h := run_append_room (P := Sagg.prog) (w := w) 216 216 4 i Sagg.underlying216 h1 g l c (rowKN c N) hg ⟨q, 0, none⟩ 1 1 [.bool b] (by rw [h2]; rfl) (fun j u hu => by
    cases j with
    | zero =>
      simp at hu
      subst hu
      have := cell_t (i := 0) hq (by omega)
      rw [bKN_bit] at this
      exact this
    | succ j => simp at hu) (fun u hu => by simp at hu; subst hu; rfl) hl (by rw [h2, rowKN_size]; simp; omega)
  rw [h2, Nat.mul_one] at h
  have e := row_put (n := c) (N := N) (o := l) (k := 1) (f := fun _ => b) hl
  simp only [List.range_one, List.map_cons, List.map_nil] at e
  rw [show [Value.bool b].length = 1 from rfl, e] at h
  simp only [builtin, Sem.run_bind, h, Result.andThen_ok, Sem.run_pure]
  rw [Nat.zero_add]
  rfl
theorem index_bits (hi : i < l) : (Instr.indexAt 216 (.slice (some ⟨g, 0, none⟩) l c) (.int .i64 (i : Int))).run Sagg.prog w = .ok (.pointer (some ⟨g, 0 + i, none⟩)) w := by
  rw [run_indexAt_slice (h := by kernel_rfl), if_pos (by omega)]
  have hs : (sizeOf (Sagg.prog.elem 216)).run Sagg.prog w = .ok 1 w := by kernel_rfl
  rw [hs]
  simp only [Result.andThen_ok, Int.toNat_natCast, Nat.mul_one, WideShapes.add_plain]
theorem index_data {o : Nat} (hi : i < l) : (Instr.indexAt 30 (.slice (some ⟨g, o, none⟩) l c) (.int .i64 (i : Int))).run Sagg.prog w = .ok (.pointer (some ⟨g, o + i, none⟩)) w := by
  rw [run_indexAt_slice (h := by kernel_rfl), if_pos (by omega)]
  have hs : (sizeOf (Sagg.prog.elem 30)).run Sagg.prog w = .ok 1 w := by kernel_rfl
  rw [hs]
  simp only [Result.andThen_ok, Int.toNat_natCast, Nat.mul_one, WideShapes.add_plain]
end
/-! ### Rows of 32 bytes -/
def byKN (N j : Nat) : Nat := Nat.mod (Nat.shiftRight N (Nat.mul 8 j)) 256
theorem by_lt (N j : Nat) : byKN N j < 256 := Nat.mod_lt _ (by omega)
theorem by_bit (N j b : Nat) : tKN (byKN N j) b = (decide (b < 8) && tKN N (8 * j + b)) := by
  unfold byKN
  have e : ∀ v, tKN (Nat.mod v 256) b = (decide (b < 8) && tKN v b) := by
    intro v
    rw [tKN_eq, tKN_eq]
    exact Nat.testBit_mod_two_pow v 8 b
  rw [e, bit_shr]
  rfl
def rowYKN (N : Nat) : Array Value := ((List.range 32).map fun j => Value.int .u8 ((byKN N j : Nat) : Int)).toArray
theorem rowY_size (N : Nat) : (rowYKN N).size = 32 := by simp [rowYKN]
theorem rowY_get {N i : Nat} (h : i < 32) : (rowYKN N)[i]? = some (.int .u8 ((byKN N i : Nat) : Int)) := by simp [rowYKN, h]
theorem pw_bit (s b : Nat) : tKN (pwKN s) b = decide (s = b) := by
  unfold pwKN
  rw [tKN_eq, Nat.testBit_two_pow]
theorem lor_bit (a b i : Nat) : tKN (lorKN a b) i = (tKN a i || tKN b i) := by
  unfold lorKN
  rw [tKN_eq, tKN_eq, tKN_eq]
  exact Nat.testBit_or a b i
theorem by_set {N i : Nat} : byKN (setKN N i true) (i / 8) = lorKN (byKN N (i / 8)) (pwKN (i % 8)) := bit_ext fun b => by
  rw [by_bit, lor_bit, by_bit, pw_bit, setKN_bit]
  by_cases h : b < 8
  · rw [decide_eq_true h, Bool.true_and, Bool.true_and]
    by_cases h2 : i % 8 = b
    · rw [if_pos (by omega), decide_eq_true h2, Bool.or_true]
    · rw [if_neg (by omega), decide_eq_false h2, Bool.or_false]
  · rw [decide_eq_false h, Bool.false_and, Bool.false_and, decide_eq_false (by omega)]
    rfl
theorem by_other {N i j : Nat} (h : j ≠ i / 8) : byKN (setKN N i true) j = byKN N j := bit_ext fun b => by
  rw [by_bit, by_bit, setKN_bit]
  by_cases h1 : b < 8
  · rw [if_neg (by omega)]
  · rw [decide_eq_false h1]
    rfl
section
variable {w : World} {g N M i : Nat} {tt : TypeId}
theorem agg28 (w : World) : (isAgg 28).run Sagg.prog w = .ok true w := by kernel_rfl
theorem size28 (w : World) : (sizeOf 28).run Sagg.prog w = .ok 32 w := by kernel_rfl
theorem cell_y (hg : w.heap[g]? = some (.cells (rowYKN N) tt (0, 0))) (hi : i < 32) : w.cell? ⟨g, i, none⟩ = some (.int .u8 ((byKN N i : Nat) : Int)) := by
  unfold World.cell?
  rw [hg]
  simp [rowY_get hi]
theorem load_y {j : Nat} (hg : w.heap[g]? = some (.cells (rowYKN N) tt (0, 0))) (hi : j < 32) : (loadVar 5 ⟨g, 0 + j * 1, none⟩).run Sagg.prog w = .ok (.int .u8 ((byKN N j : Nat) : Int)) w := by
  rw [Nat.mul_one, Nat.zero_add]
  exact load_one agg5' (cell_y hg hi)
theorem store_y (hg : w.heap[g]? = some (.cells (rowYKN N) tt (0, 0))) (hi : i < 256) :
    (do storeVar 5 ⟨g, 0 + (i / 8) * 1, none⟩ (.int .u8 ((lorKN (byKN N (i / 8)) (pwKN (i % 8)) : Nat) : Int)); pure undef : Sem Value).run Sagg.prog w = .ok undef (w.setRow g (rowYKN (setKN N i true))) := by
  rw [Nat.mul_one, Nat.zero_add, ← by_set]
  have h1 := run_storeCells_at (P := Sagg.prog) g (i / 8) tt [.int .u8 ((byKN (setKN N i true) (i / 8) : Nat) : Int)] 0 (rowYKN N) w hg (by rw [rowY_size]; simp; omega) (by simp [Value.oneCell'])
  have e : ((rowYKN N).toList.take (i / 8 + 0) ++ [Value.int .u8 ((byKN (setKN N i true) (i / 8) : Nat) : Int)] ++ (rowYKN N).toList.drop (i / 8 + 0 + [Value.int .u8 ((byKN (setKN N i true) (i / 8) : Nat) : Int)].length)).toArray = rowYKN (setKN N i true) := by
    apply Array.ext_getElem?
    intro j
    rw [List.getElem?_toArray]
    have hl : (rowYKN N).toList.length = 32 := by rw [Array.length_toList, rowY_size]
    simp only [Nat.add_zero, List.length_cons, List.length_nil, List.append_assoc]
    by_cases hj : j < 32
    · rw [rowY_get hj]
      by_cases h2 : j < i / 8
      · rw [List.getElem?_append_left (by rw [List.length_take, hl]; omega), List.getElem?_take_of_lt h2, Array.getElem?_toList, rowY_get hj, by_other (by omega)]
      · rw [List.getElem?_append_right (by rw [List.length_take, hl]; omega), List.length_take, hl, Nat.min_eq_left (by omega)]
        by_cases h3 : j = i / 8
        · subst h3
          simp
        · obtain ⟨m, hm⟩ : ∃ m, j - i / 8 = m + 1 := ⟨j - i / 8 - 1, by omega⟩
          rw [hm, List.singleton_append, List.getElem?_cons_succ, List.getElem?_drop, Array.getElem?_toList, show i / 8 + (0 + 1) + m = j by omega, rowY_get hj, by_other h3]
    · rw [List.getElem?_eq_none (by rw [List.length_append, List.length_take, List.length_append, List.length_drop, hl]; simp; omega), Array.getElem?_eq_none (by rw [rowY_size]; omega)]
  rw [e] at h1
  have h2 : (storeVar 5 ⟨g, i / 8, none⟩ (.int .u8 ((byKN (setKN N i true) (i / 8) : Nat) : Int))).run Sagg.prog w = .ok () (w.setRow g (rowYKN (setKN N i true))) := by
    simp [storeVar, size5' w, Value.cells, h1]
  simp [h2]
theorem load_yall (hg : w.heap[g]? = some (.cells (rowYKN N) tt (0, 0))) : (loadVar 28 ⟨g, 0, none⟩).run Sagg.prog w = .ok (.agg (rowYKN N)) w := by
  have h1 := run_loadCells (P := Sagg.prog) w ⟨g, 0, none⟩ 32 (fun j => .int .u8 ((byKN N j : Nat) : Int)) (fun j hj => by
    rw [WideShapes.add_plain, Nat.zero_add]
    exact cell_y hg hj)
  simp only [loadVar, Sem.run_bind, agg28, Result.andThen_ok, if_true, size28, h1, Sem.run_pure]
  rfl
theorem store_yall (hg : w.heap[g]? = some (.cells (rowYKN N) tt (0, 0))) : (do storeVar 28 ⟨g, 0, none⟩ (.agg (rowYKN M)); pure undef : Sem Value).run Sagg.prog w = .ok undef (w.setRow g (rowYKN M)) := by
  have hl : (rowYKN M).toList.length = 32 := by rw [Array.length_toList, rowY_size]
  have hl' : (rowYKN N).toList.length = 32 := by rw [Array.length_toList, rowY_size]
  have h1 := run_storeCells_at (P := Sagg.prog) g 0 tt (rowYKN M).toList 0 (rowYKN N) w hg (by rw [rowY_size, hl]; omega) (fun v hv => by
    unfold rowYKN at hv
    obtain ⟨j, _, rfl⟩ := List.mem_map.1 hv
    rfl)
  rw [hl, List.take_zero, List.nil_append, List.drop_eq_nil_of_le (by omega), List.append_nil, Array.toArray_toList] at h1
  have hs : (Value.agg (rowYKN M)).cells = rowYKN M := rfl
  have h2 : (storeVar 28 ⟨g, 0, none⟩ (.agg (rowYKN M))).run Sagg.prog w = .ok () (w.setRow g (rowYKN M)) := by
    simp only [storeVar, Sem.run_bind, size28, Result.andThen_ok, hs, rowY_size]
    simpa using h1
  simp [h2]
end
theorem shl_b {s : Nat} (h : s < 8) {w : World} : (binOp .shl 5 (.int .u8 1) (.int .i64 (s : Int))).run Sagg.prog w = .ok (.int .u8 ((pwKN s : Nat) : Int)) w := by
  rcases (by omega : s = 0 ∨ s = 1 ∨ s = 2 ∨ s = 3 ∨ s = 4 ∨ s = 5 ∨ s = 6 ∨ s = 7) with rfl | rfl | rfl | rfl | rfl | rfl | rfl | rfl <;> kernel_rfl
theorem pw_lt8 {s : Nat} (h : s < 8) : pwKN s < 256 := by
  rcases (by omega : s = 0 ∨ s = 1 ∨ s = 2 ∨ s = 3 ∨ s = 4 ∨ s = 5 ∨ s = 6 ∨ s = 7) with rfl | rfl | rfl | rfl | rfl | rfl | rfl | rfl <;> decide
set_option maxRecDepth 100000 in
theorem alloc28 {w : World} {g : Nat} (hg : w.heap.size = g) : (Instr.alloc 28 true (.tuple #[])).run Sagg.prog w = .ok (.pointer (some ⟨g, 0, none⟩)) (w.alloc (.cells (rowYKN 0) 28)) := by
  subst hg
  kernel_rfl
set_option maxRecDepth 100000 in
theorem alloc217 {w : World} {g : Nat} (hg : w.heap.size = g) : (Instr.alloc 217 true (.tuple #[])).run Sagg.prog w = .ok (.pointer (some ⟨g, 0, none⟩)) (w.alloc (.cells (rowKN 1600 0) 217)) := by
  subst hg
  kernel_rfl
theorem f_call {Γ : Type} {g N : Nat} {tt : TypeId} {w : World} {γ : Γ} (hg : w.heap[g]? = some (.cells (rowKN 1600 N) tt (0, 0))) : CallOK Sagg.prog 146 #[.pointer (some ⟨g, 0, none⟩)] w (fun C : Γ → Value → World → Prop => ∀ W, KS w [g] [(g, rowKN 1600 (fKN N), tt)] W → C γ (.tuple #[]) W) := fun C hC =>
  (f_core tt g N [g] w (KS.start hg _) List.mem_cons_self).mono fun e W h => ⟨γ, _, h.1, hC W h.2⟩
/-- A loop that carries other things than a count. -/
def cntV {Γ : Type} (slots : List Nat) (bound : Nat) (vs : Γ → Nat → List Value) (I : Γ → Nat → World → Prop) (up : Γ → Nat → World → Γ) (fin : Γ → World → Γ) (mu : List Value → Nat) : LoopTip Γ where
  slots := slots
  inv := fun γ _ us W => ∃ x : Nat, x ≤ bound ∧ us = vs γ x ∧ I γ x W
  T := fun γ _ C => (∀ (x : Nat) (W : World), x < bound → I γ x W → C (up γ x W) (vs γ x) W) ∧ (∀ W, I γ bound W → C (fin γ W) (vs γ bound) W)
  mu := fun _ us _ => mu us
theorem cntV_ok {Γ : Type} {slots : List Nat} {bound : Nat} {vs : Γ → Nat → List Value} {I : Γ → Nat → World → Prop} {up : Γ → Nat → World → Γ} {fin : Γ → World → Γ} {mu : List Value → Nat} {γ : Γ} {w : World} : LoopOK (cntV slots bound vs I up fin mu) γ w := by
  rintro C ⟨h1, h2⟩ us w' hl ⟨x, hx, rfl, hi⟩
  rcases Nat.lt_or_ge x bound with h | h
  · exact ⟨_, h1 x w' h hi⟩
  · obtain rfl : x = bound := by omega
    exact ⟨_, h2 w' hi⟩
theorem cut_p {Γ : Type} {p : Prop} {g1 g2 : Γ} {w : World} : CutOK (fun C : Γ → World → Prop => (p → C g1 w) ∧ (¬ p → C g2 w)) w := fun C h => by
  by_cases hp : p
  · exact ⟨_, h.1 hp⟩
  · exact ⟨_, h.2 hp⟩
end Go.Proofs.YgcsagGreat
