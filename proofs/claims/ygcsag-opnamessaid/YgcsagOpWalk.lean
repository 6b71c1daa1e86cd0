/-
  WALKS: op.numbered, op.Name and her three switches, op.Imm, op.Family, law.opRowIs, law.OpNames.
-/
import Derived.Test.YgcsagOpLists
namespace Go.Proofs.Ygcsag
open Go.RowKit
set_option linter.unusedSimpArgs false
set_option linter.unusedVariables false

theorem size9 (w : World) : (sizeOf 9).run Sagg.prog w = .ok 1 w := by kernel_rfl
theorem size5 (w : World) : (sizeOf 5).run Sagg.prog w = .ok 1 w := by kernel_rfl
theorem agg9 (w : World) : (isAgg 9).run Sagg.prog w = .ok false w := by kernel_rfl
theorem agg5 (w : World) : (isAgg 5).run Sagg.prog w = .ok false w := by kernel_rfl

theorem run_index_row {P : Program} (t e : TypeId) (n : Nat) (cs : Array Value) (k : IntKind) (o : Nat) (v : Value) (w : World) (ht : P.underlying t = some (.array n e)) (ho : o < n) (hs : (sizeOf e).run P w = .ok 1 w) (ha : (isAgg e).run P w = .ok false w)
    (hv : cs[o]? = some v) : (Instr.index t (.agg cs) (.int k (o : Int))).run P w = .ok v w := by
  have h2 : (0 : Int) ≤ (o : Int) ∧ (o : Int) < (n : Int) := by omega
  unfold Instr.index
  simp only [asIntOf, Sem.run_bind, Sem.run_pure, Result.andThen_ok, run_underlying ht, h2, and_self, if_true, hs, part, ha, Int.toNat_natCast, Nat.mul_one, hv, Bool.false_eq_true, if_false]

theorem len_names : nameList.length = 256 := by kernel_rfl
theorem len_imms : immList.length = 256 := by kernel_rfl
theorem len_fams : famList.length = 256 := by kernel_rfl

theorem index_names (o : Nat) (ho : o < 256) (w : World) : (Instr.index 97 (.agg nameRow) (.int .u8 (o : Int))).run Sagg.prog w = .ok (.string (nameStr o)) w := by
  refine run_index_row 97 9 256 nameRow .u8 o _ w Sagg.underlying97 ho (size9 w) (agg9 w) ?_
  have hl := len_names
  simp only [nameRow, nameStr, List.getD_eq_getElem?_getD, List.getElem?_toArray, List.getElem?_map, List.getElem?_eq_getElem (show o < nameList.length by omega), Option.map_some, Option.getD_some]

theorem index_ints (l : List Int) (hl : l.length = 256) (o : Nat) (ho : o < 256) (w : World) : (Instr.index 99 (.agg (l.map (Value.int .u8)).toArray) (.int .u8 (o : Int))).run Sagg.prog w = .ok (.int .u8 (l.getD o 0)) w := by
  refine run_index_row 99 5 256 _ .u8 o _ w Sagg.underlying99 ho (size5 w) (agg5 w) ?_
  simp only [List.getD_eq_getElem?_getD, List.getElem?_toArray, List.getElem?_map, List.getElem?_eq_getElem (show o < l.length by omega), Option.map_some, Option.getD_some]

theorem index_imms (o : Nat) (ho : o < 256) (w : World) : (Instr.index 99 (.agg immRow) (.int .u8 (o : Int))).run Sagg.prog w = .ok (.int .u8 (immList.getD o 0)) w := index_ints immList len_imms o ho w
theorem index_fams (o : Nat) (ho : o < 256) (w : World) : (Instr.index 99 (.agg famRow) (.int .u8 (o : Int))).run Sagg.prog w = .ok (.int .u8 (famList.getD o 0)) w := index_ints famList len_fams o ho w

theorem bst {w a b : World} (h : Below w.heap.size w a) (k : Below a.heap.size a b) : Below w.heap.size w b := h.trans (k.mono h.size)

set_option maxRecDepth 100000 in
theorem opRowIs_calls (o : Nat) (ho : o < 256) (w : World) : Calls Sagg.prog 29 #[.int .u8 (o : Int), .string (nameStr o), .int .u8 (immList.getD o 0), .int .u8 (famList.getD o 0)] w fun e w' => e = .returned (.bool true) ∧ Below w.heap.size w w' := by
  have h1 := index_names o ho
  have h2 := index_imms o ho
  have h3 := index_fams o ho
  have c1 := names_calls
  have c2 := imms_calls
  have c3 := fams_calls
  generalize nameRow = R1 at *
  generalize immRow = R2 at *
  generalize famRow = R3 at *
  generalize nameStr o = S at *
  generalize immList.getD o 0 = M at *
  generalize famList.getD o 0 = F at *
  have C1 : Hid (∀ (w : World), Calls Sagg.prog 52 #[] w fun e w' => e = Ending.returned (Value.agg R1) ∧ Below w.heap.size w w') := c1
  have C2 : Hid (∀ (w : World), Calls Sagg.prog 53 #[] w fun e w' => e = Ending.returned (Value.agg R2) ∧ Below w.heap.size w w') := c2
  have C3 : Hid (∀ (w : World), Calls Sagg.prog 54 #[] w fun e w' => e = Ending.returned (Value.agg R3) ∧ Below w.heap.size w w') := c3
  clear c1 c2 c3
  go_enter Sagg.func29, Sagg.ntmps29
  go_wp2_with fail
  refine (C1.out _).mono ?_
  rintro e w1 ⟨rfl, hb1⟩
  go_wp2_with fail
  refine (C2.out _).mono ?_
  rintro e w2 ⟨rfl, hb2⟩
  go_wp2_with fail
  refine (C3.out _).mono ?_
  rintro e w3 ⟨rfl, hb3⟩
  go_wp2
  go_ret
  exact ⟨rfl, bst (bst hb1 hb2) hb3⟩

end Go.Proofs.Ygcsag
