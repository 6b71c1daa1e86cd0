/-
  'kmodel': Offset.
-/
import Derived.Test.YgcsagGreatRd
import Derived.Test.YgcsagGreatHU
namespace Go.Proofs.YgcsagGreat
open Go.RowKit
set_option linter.unusedVariables false
set_option linter.unusedSimpArgs false
def offKN (x y : Nat) : Nat := ([0, 36, 3, 41, 18, 1, 44, 10, 45, 2, 62, 6, 43, 15, 61, 28, 55, 25, 21, 56, 27, 20, 39, 8, 14] : List Nat).getD (5 * x + y) 0
set_option maxRecDepth 100000
theorem of_case {x y : Int} {r : Int} {H : List Nat} (h : EX.EF Sagg.prog [] 30 2 [] 193 #[.int .u8 x, .int .u8 y] (fun v _ _ => v = .int .u8 r) ⟨[], []⟩ H = (Value.int .u8 r = Value.int .u8 r)) (w : World) : Calls Sagg.prog 193 #[.int .u8 x, .int .u8 y] w fun e W => e = .returned (.int .u8 r) ∧ KS w [] [] W := by
  have h := of_eq h rfl
  refine Calls.mono (EX.EF_ok (nm := fun _ _ _ => False) (w0 := w) follows_mixed no_specs _ [] [] _ _ _ _ _ w h ⟨Below.refl _ _, fun k hk => (by cases hk), List.Pairwise.nil, fun p hp => (by cases hp), fun _ _ _ _ _ h => h.elim⟩) ?_
  rintro e w' ⟨v, s, H, rfl, hv, hi⟩
  have hb := hi.below
  exact ⟨by rw [hv], ⟨hb.os, hb.tape, hb.output, hb.size, fun k hk _ => hb.block k hk, fun p hp => by cases hp⟩⟩
theorem of_0_0 : EX.EF Sagg.prog [] 30 2 [] 193 #[.int .u8 0, .int .u8 0] (fun v _ _ => v = .int .u8 0) ⟨[], []⟩ [nat_lit 0] = (Value.int .u8 0 = Value.int .u8 0) := by kernel_rfl
theorem of_0_1 : EX.EF Sagg.prog [] 30 2 [] 193 #[.int .u8 0, .int .u8 1] (fun v _ _ => v = .int .u8 36) ⟨[], []⟩ [nat_lit 0] = (Value.int .u8 36 = Value.int .u8 36) := by kernel_rfl
theorem of_0_2 : EX.EF Sagg.prog [] 30 2 [] 193 #[.int .u8 0, .int .u8 2] (fun v _ _ => v = .int .u8 3) ⟨[], []⟩ [nat_lit 0] = (Value.int .u8 3 = Value.int .u8 3) := by kernel_rfl
theorem of_0_3 : EX.EF Sagg.prog [] 30 2 [] 193 #[.int .u8 0, .int .u8 3] (fun v _ _ => v = .int .u8 41) ⟨[], []⟩ [nat_lit 0] = (Value.int .u8 41 = Value.int .u8 41) := by kernel_rfl
theorem of_0_4 : EX.EF Sagg.prog [] 30 2 [] 193 #[.int .u8 0, .int .u8 4] (fun v _ _ => v = .int .u8 18) ⟨[], []⟩ [nat_lit 0] = (Value.int .u8 18 = Value.int .u8 18) := by kernel_rfl
theorem of_1_0 : EX.EF Sagg.prog [] 30 2 [] 193 #[.int .u8 1, .int .u8 0] (fun v _ _ => v = .int .u8 1) ⟨[], []⟩ [nat_lit 0] = (Value.int .u8 1 = Value.int .u8 1) := by kernel_rfl
theorem of_1_1 : EX.EF Sagg.prog [] 30 2 [] 193 #[.int .u8 1, .int .u8 1] (fun v _ _ => v = .int .u8 44) ⟨[], []⟩ [nat_lit 0] = (Value.int .u8 44 = Value.int .u8 44) := by kernel_rfl
theorem of_1_2 : EX.EF Sagg.prog [] 30 2 [] 193 #[.int .u8 1, .int .u8 2] (fun v _ _ => v = .int .u8 10) ⟨[], []⟩ [nat_lit 0] = (Value.int .u8 10 = Value.int .u8 10) := by kernel_rfl
theorem of_1_3 : EX.EF Sagg.prog [] 30 2 [] 193 #[.int .u8 1, .int .u8 3] (fun v _ _ => v = .int .u8 45) ⟨[], []⟩ [nat_lit 0] = (Value.int .u8 45 = Value.int .u8 45) := by kernel_rfl
theorem of_1_4 : EX.EF Sagg.prog [] 30 2 [] 193 #[.int .u8 1, .int .u8 4] (fun v _ _ => v = .int .u8 2) ⟨[], []⟩ [nat_lit 0] = (Value.int .u8 2 = Value.int .u8 2) := by kernel_rfl
theorem of_2_0 : EX.EF Sagg.prog [] 30 2 [] 193 #[.int .u8 2, .int .u8 0] (fun v _ _ => v = .int .u8 62) ⟨[], []⟩ [nat_lit 0] = (Value.int .u8 62 = Value.int .u8 62) := by kernel_rfl
theorem of_2_1 : EX.EF Sagg.prog [] 30 2 [] 193 #[.int .u8 2, .int .u8 1] (fun v _ _ => v = .int .u8 6) ⟨[], []⟩ [nat_lit 0] = (Value.int .u8 6 = Value.int .u8 6) := by kernel_rfl
theorem of_2_2 : EX.EF Sagg.prog [] 30 2 [] 193 #[.int .u8 2, .int .u8 2] (fun v _ _ => v = .int .u8 43) ⟨[], []⟩ [nat_lit 0] = (Value.int .u8 43 = Value.int .u8 43) := by kernel_rfl
theorem of_2_3 : EX.EF Sagg.prog [] 30 2 [] 193 #[.int .u8 2, .int .u8 3] (fun v _ _ => v = .int .u8 15) ⟨[], []⟩ [nat_lit 0] = (Value.int .u8 15 = Value.int .u8 15) := by kernel_rfl
theorem of_2_4 : EX.EF Sagg.prog [] 30 2 [] 193 #[.int .u8 2, .int .u8 4] (fun v _ _ => v = .int .u8 61) ⟨[], []⟩ [nat_lit 0] = (Value.int .u8 61 = Value.int .u8 61) := by kernel_rfl
theorem of_3_0 : EX.EF Sagg.prog [] 30 2 [] 193 #[.int .u8 3, .int .u8 0] (fun v _ _ => v = .int .u8 28) ⟨[], []⟩ [nat_lit 0] = (Value.int .u8 28 = Value.int .u8 28) := by kernel_rfl
theorem of_3_1 : EX.EF Sagg.prog [] 30 2 [] 193 #[.int .u8 3, .int .u8 1] (fun v _ _ => v = .int .u8 55) ⟨[], []⟩ [nat_lit 0] = (Value.int .u8 55 = Value.int .u8 55) := by kernel_rfl
theorem of_3_2 : EX.EF Sagg.prog [] 30 2 [] 193 #[.int .u8 3, .int .u8 2] (fun v _ _ => v = .int .u8 25) ⟨[], []⟩ [nat_lit 0] = (Value.int .u8 25 = Value.int .u8 25) := by kernel_rfl
theorem of_3_3 : EX.EF Sagg.prog [] 30 2 [] 193 #[.int .u8 3, .int .u8 3] (fun v _ _ => v = .int .u8 21) ⟨[], []⟩ [nat_lit 0] = (Value.int .u8 21 = Value.int .u8 21) := by kernel_rfl
theorem of_3_4 : EX.EF Sagg.prog [] 30 2 [] 193 #[.int .u8 3, .int .u8 4] (fun v _ _ => v = .int .u8 56) ⟨[], []⟩ [nat_lit 0] = (Value.int .u8 56 = Value.int .u8 56) := by kernel_rfl
theorem of_4_0 : EX.EF Sagg.prog [] 30 2 [] 193 #[.int .u8 4, .int .u8 0] (fun v _ _ => v = .int .u8 27) ⟨[], []⟩ [nat_lit 0] = (Value.int .u8 27 = Value.int .u8 27) := by kernel_rfl
theorem of_4_1 : EX.EF Sagg.prog [] 30 2 [] 193 #[.int .u8 4, .int .u8 1] (fun v _ _ => v = .int .u8 20) ⟨[], []⟩ [nat_lit 0] = (Value.int .u8 20 = Value.int .u8 20) := by kernel_rfl
theorem of_4_2 : EX.EF Sagg.prog [] 30 2 [] 193 #[.int .u8 4, .int .u8 2] (fun v _ _ => v = .int .u8 39) ⟨[], []⟩ [nat_lit 0] = (Value.int .u8 39 = Value.int .u8 39) := by kernel_rfl
theorem of_4_3 : EX.EF Sagg.prog [] 30 2 [] 193 #[.int .u8 4, .int .u8 3] (fun v _ _ => v = .int .u8 8) ⟨[], []⟩ [nat_lit 0] = (Value.int .u8 8 = Value.int .u8 8) := by kernel_rfl
theorem of_4_4 : EX.EF Sagg.prog [] 30 2 [] 193 #[.int .u8 4, .int .u8 4] (fun v _ _ => v = .int .u8 14) ⟨[], []⟩ [nat_lit 0] = (Value.int .u8 14 = Value.int .u8 14) := by kernel_rfl
theorem offset_calls {x y : Nat} (hx : x < 5) (hy : y < 5) (w : World) : Calls Sagg.prog 193 #[.int .u8 (x : Int), .int .u8 (y : Int)] w fun e W => e = .returned (.int .u8 ((offKN x y : Nat) : Int)) ∧ KS w [] [] W := by
  rcases (by omega : x = 0 ∨ x = 1 ∨ x = 2 ∨ x = 3 ∨ x = 4) with rfl | rfl | rfl | rfl | rfl
  · rcases (by omega : y = 0 ∨ y = 1 ∨ y = 2 ∨ y = 3 ∨ y = 4) with rfl | rfl | rfl | rfl | rfl
    · exact of_case of_0_0 w
    · exact of_case of_0_1 w
    · exact of_case of_0_2 w
    · exact of_case of_0_3 w
    · exact of_case of_0_4 w
  · rcases (by omega : y = 0 ∨ y = 1 ∨ y = 2 ∨ y = 3 ∨ y = 4) with rfl | rfl | rfl | rfl | rfl
    · exact of_case of_1_0 w
    · exact of_case of_1_1 w
    · exact of_case of_1_2 w
    · exact of_case of_1_3 w
    · exact of_case of_1_4 w
  · rcases (by omega : y = 0 ∨ y = 1 ∨ y = 2 ∨ y = 3 ∨ y = 4) with rfl | rfl | rfl | rfl | rfl
    · exact of_case of_2_0 w
    · exact of_case of_2_1 w
    · exact of_case of_2_2 w
    · exact of_case of_2_3 w
    · exact of_case of_2_4 w
  · rcases (by omega : y = 0 ∨ y = 1 ∨ y = 2 ∨ y = 3 ∨ y = 4) with rfl | rfl | rfl | rfl | rfl
    · exact of_case of_3_0 w
    · exact of_case of_3_1 w
    · exact of_case of_3_2 w
    · exact of_case of_3_3 w
    · exact of_case of_3_4 w
  · rcases (by omega : y = 0 ∨ y = 1 ∨ y = 2 ∨ y = 3 ∨ y = 4) with rfl | rfl | rfl | rfl | rfl
    · exact of_case of_4_0 w
    · exact of_case of_4_1 w
    · exact of_case of_4_2 w
    · exact of_case of_4_3 w
    · exact of_case of_4_4 w
end Go.Proofs.YgcsagGreat
