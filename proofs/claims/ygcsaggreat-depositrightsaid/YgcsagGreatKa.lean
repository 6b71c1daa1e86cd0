/-
  ROWS OF BITS (for 'kmodel').
-/
import Derived.Test.YgcsagGreatNX
namespace Go.Proofs.YgcsagGreat
open Go.RowKit
set_option linter.unusedVariables false
set_option linter.unusedSimpArgs false

/-- A row of n bits, as a number. -/
def rowB (n N : Nat) : Array Value := ((List.range n).map fun i => Value.bool (N.testBit i)).toArray
def setBit (N i : Nat) (b : Bool) : Nat := N ^^^ (((N.testBit i) != b).toNat <<< i)
theorem rowB_size (n N : Nat) : (rowB n N).size = n := by simp [rowB]
theorem rowB_get {n N i : Nat} (h : i < n) : (rowB n N)[i]? = some (.bool (N.testBit i)) := by
  simp [rowB, h]
theorem setBit_bit (N i j : Nat) (b : Bool) : (setBit N i b).testBit j = if j = i then b else N.testBit j := by
  unfold setBit
  rw [Nat.testBit_xor, Nat.testBit_shiftLeft]
  by_cases h : j = i
  · subst h
    rw [if_pos rfl]
    cases hb : N.testBit j <;> cases b <;> simp
  · rw [if_neg h]
    by_cases hj : i ≤ j
    · have h1 : j - i ≠ 0 := by omega
      have h2 : ((N.testBit i) != b).toNat.testBit (j - i) = false := by
        cases (N.testBit i != b)
        · simp
        · obtain ⟨m, hm⟩ : ∃ m, j - i = m + 1 := ⟨j - i - 1, by omega⟩
          rw [hm]
          simp [Nat.testBit_succ]
      simp [h2]
    · simp [hj]
theorem rowB_set {n N i : Nat} {b : Bool} (h : i < n) : ((rowB n N).toList.take i ++ [Value.bool b] ++ (rowB n N).toList.drop (i + 1)).toArray = rowB n (setBit N i b) := by
  unfold rowB
  congr 1
  apply List.ext_getElem?
  intro j
  simp only [List.append_assoc, List.singleton_append]
  by_cases hj : j < n
  · rw [List.getElem?_map, List.getElem?_range hj, Option.map_some, setBit_bit]
    by_cases e : j = i
    · subst e
      rw [if_pos rfl, List.getElem?_append_right (by simp; omega)]
      simp [Nat.min_eq_left (Nat.le_of_lt h)]
    · rw [if_neg e]
      by_cases hlt : j < i
      · rw [List.getElem?_append_left (by simp; omega), List.getElem?_take_of_lt hlt, List.getElem?_map, List.getElem?_range hj]
        rfl
      · rw [List.getElem?_append_right (by simp; omega)]
        simp only [List.length_take, List.length_map, List.length_range]
        obtain ⟨m, hm⟩ : ∃ m, j - min i n = m + 1 := ⟨j - min i n - 1, by omega⟩
        rw [hm, List.getElem?_cons_succ, List.getElem?_drop, List.getElem?_map, List.getElem?_range (by omega)]
        have : i + 1 + m = j := by omega
        rw [this]
        rfl
  · rw [List.getElem?_eq_none (by simp; omega), List.getElem?_eq_none (by simp; omega)]
section
variable {w : World} {g n N i : Nat} {tt : TypeId}
theorem cell_bit (hg : w.heap[g]? = some (.cells (rowB n N) tt (0, 0))) (hi : i < n) : w.cell? ⟨g, i, none⟩ = some (.bool (N.testBit i)) := by
  unfold World.cell?
  rw [hg]
  simp [rowB_get hi]
theorem agg4' (w : World) : (isAgg 4).run Sagg.prog w = .ok false w := by kernel_rfl
theorem size4' (w : World) : (sizeOf 4).run Sagg.prog w = .ok 1 w := by kernel_rfl
theorem load_bit (hg : w.heap[g]? = some (.cells (rowB n N) tt (0, 0))) (hi : i < n) : (loadVar 4 ⟨g, i, none⟩).run Sagg.prog w = .ok (.bool (N.testBit i)) w := load_one agg4' (cell_bit hg hi)
theorem store_bit {b : Bool} (hg : w.heap[g]? = some (.cells (rowB n N) tt (0, 0))) (hi : i < n) :
    (do storeVar 4 ⟨g, i, none⟩ (.bool b); pure undef : Sem Value).run Sagg.prog w = .ok undef (w.setRow g (rowB n (setBit N i b))) := by
  have h1 := run_storeCells_at (P := Sagg.prog) g i tt [.bool b] 0 (rowB n N) w hg (by rw [rowB_size]; simp; omega) (by simp [Value.oneCell'])
  have e : ((rowB n N).toList.take (i + 0) ++ [Value.bool b] ++ (rowB n N).toList.drop (i + 0 + [Value.bool b].length)).toArray = rowB n (setBit N i b) := rowB_set hi
  rw [e] at h1
  have h2 : (storeVar 4 ⟨g, i, none⟩ (.bool b)).run Sagg.prog w = .ok () (w.setRow g (rowB n (setBit N i b))) := by
    simp [storeVar, size4' w, Value.cells, h1]
  simp [h2]
end
section
variable {P : Program} {t : TypeId} {w : World}
theorem index_arrS {e : TypeId} {len s g o i : Nat} (ht : P.underlying t = some (.array len e)) (hs : (P.info? e).map (·.size) = some s) (hi : i < len) :
    (Instr.indexAt t (.pointer (some ⟨g, o, none⟩)) (.int .i64 i)).run P w = .ok (.pointer (some ⟨g, o + i * s, none⟩)) w := by
  have h1 : (0 : Int) ≤ (i : Int) ∧ (i : Int) < (len : Int) := by omega
  simp [Instr.indexAt, asIntOf, run_underlying ht, h1, size_info hs, Addr.add, Instr.sureAddr]
  rw [if_pos hi]
  by_cases hz : i * s = 0
  · simp [hz]
  · simp [hz]
theorem neq_b {a b : Bool} : (binOp .neq 4 (.bool a) (.bool b)).run Sagg.prog w = .ok (.bool (a != b)) w := by
  cases a <;> cases b <;> kernel_rfl
theorem add_n {a b c : Nat} (h : a + b = c) (hc : c ≤ 9223372036854775807) : (binOp .add t (.int .i64 (a : Int)) (.int .i64 (b : Int))).run P w = .ok (.int .i64 (c : Int)) w := add_i (by rw [wrap64 (by omega) (by omega)]; omega)
theorem rem_n {a b c : Nat} (h : a % b = c) (hb : 0 < b) (ha : a ≤ 9223372036854775807) (hb' : b ≤ 9223372036854775807) : (binOp .rem t (.int .i64 (a : Int)) (.int .i64 (b : Int))).run P w = .ok (.int .i64 (c : Int)) w := by
  have hb0 : (b : Int) ≠ 0 := by omega
  have e : ((a : Int).tmod (b : Int)) = (c : Int) := by rw [← h]; exact (Int.ofNat_tmod a b).symm
  have hb1 : b ≠ 0 := by omega
  simp [binOp, Op.intArith, Op.intDiv, hb1, e]
end
end Go.Proofs.YgcsagGreat
