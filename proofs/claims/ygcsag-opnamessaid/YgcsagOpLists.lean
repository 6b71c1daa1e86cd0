/-
  WALKS: law.opNameList, opImmList, opFamilyList.
-/
import Derived.Test.YgcsagOpTab
import Derived.Below
import Derived.Deep.WholeRow
import Derived.Laws.Tables
namespace Go.Proofs.Ygcsag
open Go.RowKit
set_option linter.unusedSimpArgs false
set_option linter.unusedVariables false

theorem wpList_build_as {P : Program} {ops : Array Oper} {rest : List Oper} {o : Oper} {a : Act} {w : World} {Q : Exit → Act → World → Prop} (cells : Array Value) (hg : o.guard = none) (t : TypeId) (parts : Array (Nat × Operand)) (ho : o.op = .build t parts)
    (hf : P.built t (parts.map fun (i, x) => (i, a.eval x)).toList = some cells)
    (h : wpList P ops Q rest (a.put o.dst (.agg cells)) w) : wpList P ops Q (o :: rest) a w :=
  wpList_build hg t parts ho (by rw [hf]; rfl) (by rw [hf]; exact h)

/-- 256 zero values. -/
def blank (z : Value) : Array Value := (List.replicate 256 z).toArray
theorem zero97 (w : World) : (zeroValue 97).run Sagg.prog w = .ok (.agg (blank (.string ByteArray.empty))) w := by kernel_rfl
theorem zero99 (w : World) : (zeroValue 99).run Sagg.prog w = .ok (.agg (blank (.int .u8 0))) w := by kernel_rfl

set_option maxRecDepth 100000 in
theorem names_calls (w : World) : Calls Sagg.prog 52 #[] w fun e w' => e = .returned (.agg nameRow) ∧ Below w.heap.size w w' := by
  have hz := zero97
  go_enter Sagg.func52, Sagg.ntmps52
  go_wp2_with (first
    | (refine wpList_build_as nameRow rfl 97 _ rfl (by kernel_rfl) ?_)
    | (refine wpList_store_row rfl 97 _ _ rfl w.heap.size nameRow rfl rfl 97 (blank (.string ByteArray.empty)) (heap_alloc_new _ _) (by kernel_rfl) (by kernel_rfl) (by kernel_rfl) ?_))
  rw [World.setRow_alloc_new]
  exact bodyPost_ret (results_cell_row rfl _ _ w.heap.size 97 nameRow (0, 0) _ rfl (heap_alloc_new _ _) Sagg.underlying97 rfl (by kernel_rfl)) rfl ⟨rfl, (Below.refl _ _).alloc (Nat.le_refl _) _⟩

set_option maxRecDepth 100000 in
theorem imms_calls (w : World) : Calls Sagg.prog 53 #[] w fun e w' => e = .returned (.agg immRow) ∧ Below w.heap.size w w' := by
  have hz := zero99
  go_enter Sagg.func53, Sagg.ntmps53
  go_wp2_with (first
    | (refine wpList_build_as immRow rfl 99 _ rfl (by kernel_rfl) ?_)
    | (refine wpList_store_row rfl 99 _ _ rfl w.heap.size immRow rfl rfl 99 (blank (.int .u8 0)) (heap_alloc_new _ _) (by kernel_rfl) (by kernel_rfl) (by kernel_rfl) ?_))
  rw [World.setRow_alloc_new]
  exact bodyPost_ret (results_cell_row rfl _ _ w.heap.size 99 immRow (0, 0) _ rfl (heap_alloc_new _ _) Sagg.underlying99 rfl (by kernel_rfl)) rfl ⟨rfl, (Below.refl _ _).alloc (Nat.le_refl _) _⟩

set_option maxRecDepth 100000 in
theorem fams_calls (w : World) : Calls Sagg.prog 54 #[] w fun e w' => e = .returned (.agg famRow) ∧ Below w.heap.size w w' := by
  have hz := zero99
  go_enter Sagg.func54, Sagg.ntmps54
  go_wp2_with (first
    | (refine wpList_build_as famRow rfl 99 _ rfl (by kernel_rfl) ?_)
    | (refine wpList_store_row rfl 99 _ _ rfl w.heap.size famRow rfl rfl 99 (blank (.int .u8 0)) (heap_alloc_new _ _) (by kernel_rfl) (by kernel_rfl) (by kernel_rfl) ?_))
  rw [World.setRow_alloc_new]
  exact bodyPost_ret (results_cell_row rfl _ _ w.heap.size 99 famRow (0, 0) _ rfl (heap_alloc_new _ _) Sagg.underlying99 rfl (by kernel_rfl)) rfl ⟨rfl, (Below.refl _ _).alloc (Nat.le_refl _) _⟩


end Go.Proofs.Ygcsag
