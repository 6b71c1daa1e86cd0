/-
  WALKS: op.nameArith (made by program: a range of o a theorem).
-/
import Derived.Test.YgcsagOpWalk
namespace Go.Proofs.Ygcsag
open Go.RowKit
set_option linter.unusedSimpArgs false
set_option linter.unusedVariables false

theorem nameArith_0 (w : World) : Calls Sagg.prog 56 #[.int .u8 0] w fun e w' => e = .returned (.string ⟨#[83, 84, 79, 80]⟩) ∧ w' = w := by
  go_enter Sagg.func56, Sagg.ntmps56
  go_wp2
  go_ret
  exact ⟨rfl, rfl⟩
theorem nameArith_1 (w : World) : Calls Sagg.prog 56 #[.int .u8 1] w fun e w' => e = .returned (.string ⟨#[65, 68, 68]⟩) ∧ w' = w := by
  go_enter Sagg.func56, Sagg.ntmps56
  go_wp2
  go_ret
  exact ⟨rfl, rfl⟩
theorem nameArith_2 (w : World) : Calls Sagg.prog 56 #[.int .u8 2] w fun e w' => e = .returned (.string ⟨#[77, 85, 76]⟩) ∧ w' = w := by
  go_enter Sagg.func56, Sagg.ntmps56
  go_wp2
  go_ret
  exact ⟨rfl, rfl⟩
theorem nameArith_3 (w : World) : Calls Sagg.prog 56 #[.int .u8 3] w fun e w' => e = .returned (.string ⟨#[83, 85, 66]⟩) ∧ w' = w := by
  go_enter Sagg.func56, Sagg.ntmps56
  go_wp2
  go_ret
  exact ⟨rfl, rfl⟩
theorem nameArith_4 (w : World) : Calls Sagg.prog 56 #[.int .u8 4] w fun e w' => e = .returned (.string ⟨#[68, 73, 86]⟩) ∧ w' = w := by
  go_enter Sagg.func56, Sagg.ntmps56
  go_wp2
  go_ret
  exact ⟨rfl, rfl⟩
theorem nameArith_5 (w : World) : Calls Sagg.prog 56 #[.int .u8 5] w fun e w' => e = .returned (.string ⟨#[83, 68, 73, 86]⟩) ∧ w' = w := by
  go_enter Sagg.func56, Sagg.ntmps56
  go_wp2
  go_ret
  exact ⟨rfl, rfl⟩
theorem nameArith_6 (w : World) : Calls Sagg.prog 56 #[.int .u8 6] w fun e w' => e = .returned (.string ⟨#[77, 79, 68]⟩) ∧ w' = w := by
  go_enter Sagg.func56, Sagg.ntmps56
  go_wp2
  go_ret
  exact ⟨rfl, rfl⟩
theorem nameArith_7 (w : World) : Calls Sagg.prog 56 #[.int .u8 7] w fun e w' => e = .returned (.string ⟨#[83, 77, 79, 68]⟩) ∧ w' = w := by
  go_enter Sagg.func56, Sagg.ntmps56
  go_wp2
  go_ret
  exact ⟨rfl, rfl⟩
theorem nameArith_8 (w : World) : Calls Sagg.prog 56 #[.int .u8 8] w fun e w' => e = .returned (.string ⟨#[65, 68, 68, 77, 79, 68]⟩) ∧ w' = w := by
  go_enter Sagg.func56, Sagg.ntmps56
  go_wp2
  go_ret
  exact ⟨rfl, rfl⟩
theorem nameArith_9 (w : World) : Calls Sagg.prog 56 #[.int .u8 9] w fun e w' => e = .returned (.string ⟨#[77, 85, 76, 77, 79, 68]⟩) ∧ w' = w := by
  go_enter Sagg.func56, Sagg.ntmps56
  go_wp2
  go_ret
  exact ⟨rfl, rfl⟩
theorem nameArith_10 (w : World) : Calls Sagg.prog 56 #[.int .u8 10] w fun e w' => e = .returned (.string ⟨#[69, 88, 80]⟩) ∧ w' = w := by
  go_enter Sagg.func56, Sagg.ntmps56
  go_wp2
  go_ret
  exact ⟨rfl, rfl⟩
theorem nameArith_11 (w : World) : Calls Sagg.prog 56 #[.int .u8 11] w fun e w' => e = .returned (.string ⟨#[83, 73, 71, 78, 69, 88, 84, 69, 78, 68]⟩) ∧ w' = w := by
  go_enter Sagg.func56, Sagg.ntmps56
  go_wp2
  go_ret
  exact ⟨rfl, rfl⟩
theorem nameArith_12 (o : Nat) (h1 : 12 ≤ o) (h2 : o ≤ 15) (w : World) : Calls Sagg.prog 56 #[.int .u8 (o : Int)] w fun e w' => e = .returned (.string ⟨#[]⟩) ∧ w' = w := by
  have b1 : (12 : Int) ≤ o := by omega
  have b2 : (o : Int) ≤ 15 := by omega
  go_enter Sagg.func56, Sagg.ntmps56
  go_wp2
  all_goals (go_ret; exact ⟨rfl, rfl⟩)
theorem nameArith_16 (w : World) : Calls Sagg.prog 56 #[.int .u8 16] w fun e w' => e = .returned (.string ⟨#[76, 84]⟩) ∧ w' = w := by
  go_enter Sagg.func56, Sagg.ntmps56
  go_wp2
  go_ret
  exact ⟨rfl, rfl⟩
theorem nameArith_17 (w : World) : Calls Sagg.prog 56 #[.int .u8 17] w fun e w' => e = .returned (.string ⟨#[71, 84]⟩) ∧ w' = w := by
  go_enter Sagg.func56, Sagg.ntmps56
  go_wp2
  go_ret
  exact ⟨rfl, rfl⟩
theorem nameArith_18 (w : World) : Calls Sagg.prog 56 #[.int .u8 18] w fun e w' => e = .returned (.string ⟨#[83, 76, 84]⟩) ∧ w' = w := by
  go_enter Sagg.func56, Sagg.ntmps56
  go_wp2
  go_ret
  exact ⟨rfl, rfl⟩
theorem nameArith_19 (w : World) : Calls Sagg.prog 56 #[.int .u8 19] w fun e w' => e = .returned (.string ⟨#[83, 71, 84]⟩) ∧ w' = w := by
  go_enter Sagg.func56, Sagg.ntmps56
  go_wp2
  go_ret
  exact ⟨rfl, rfl⟩
theorem nameArith_20 (w : World) : Calls Sagg.prog 56 #[.int .u8 20] w fun e w' => e = .returned (.string ⟨#[69, 81]⟩) ∧ w' = w := by
  go_enter Sagg.func56, Sagg.ntmps56
  go_wp2
  go_ret
  exact ⟨rfl, rfl⟩
theorem nameArith_21 (w : World) : Calls Sagg.prog 56 #[.int .u8 21] w fun e w' => e = .returned (.string ⟨#[73, 83, 90, 69, 82, 79]⟩) ∧ w' = w := by
  go_enter Sagg.func56, Sagg.ntmps56
  go_wp2
  go_ret
  exact ⟨rfl, rfl⟩
theorem nameArith_22 (w : World) : Calls Sagg.prog 56 #[.int .u8 22] w fun e w' => e = .returned (.string ⟨#[65, 78, 68]⟩) ∧ w' = w := by
  go_enter Sagg.func56, Sagg.ntmps56
  go_wp2
  go_ret
  exact ⟨rfl, rfl⟩
theorem nameArith_23 (w : World) : Calls Sagg.prog 56 #[.int .u8 23] w fun e w' => e = .returned (.string ⟨#[79, 82]⟩) ∧ w' = w := by
  go_enter Sagg.func56, Sagg.ntmps56
  go_wp2
  go_ret
  exact ⟨rfl, rfl⟩
theorem nameArith_24 (w : World) : Calls Sagg.prog 56 #[.int .u8 24] w fun e w' => e = .returned (.string ⟨#[88, 79, 82]⟩) ∧ w' = w := by
  go_enter Sagg.func56, Sagg.ntmps56
  go_wp2
  go_ret
  exact ⟨rfl, rfl⟩
theorem nameArith_25 (w : World) : Calls Sagg.prog 56 #[.int .u8 25] w fun e w' => e = .returned (.string ⟨#[78, 79, 84]⟩) ∧ w' = w := by
  go_enter Sagg.func56, Sagg.ntmps56
  go_wp2
  go_ret
  exact ⟨rfl, rfl⟩
theorem nameArith_26 (w : World) : Calls Sagg.prog 56 #[.int .u8 26] w fun e w' => e = .returned (.string ⟨#[66, 89, 84, 69]⟩) ∧ w' = w := by
  go_enter Sagg.func56, Sagg.ntmps56
  go_wp2
  go_ret
  exact ⟨rfl, rfl⟩
theorem nameArith_27 (w : World) : Calls Sagg.prog 56 #[.int .u8 27] w fun e w' => e = .returned (.string ⟨#[83, 72, 76]⟩) ∧ w' = w := by
  go_enter Sagg.func56, Sagg.ntmps56
  go_wp2
  go_ret
  exact ⟨rfl, rfl⟩
theorem nameArith_28 (w : World) : Calls Sagg.prog 56 #[.int .u8 28] w fun e w' => e = .returned (.string ⟨#[83, 72, 82]⟩) ∧ w' = w := by
  go_enter Sagg.func56, Sagg.ntmps56
  go_wp2
  go_ret
  exact ⟨rfl, rfl⟩
theorem nameArith_29 (w : World) : Calls Sagg.prog 56 #[.int .u8 29] w fun e w' => e = .returned (.string ⟨#[83, 65, 82]⟩) ∧ w' = w := by
  go_enter Sagg.func56, Sagg.ntmps56
  go_wp2
  go_ret
  exact ⟨rfl, rfl⟩
theorem nameArith_30 (o : Nat) (h1 : 30 ≤ o) (h2 : o ≤ 31) (w : World) : Calls Sagg.prog 56 #[.int .u8 (o : Int)] w fun e w' => e = .returned (.string ⟨#[]⟩) ∧ w' = w := by
  have b1 : (30 : Int) ≤ o := by omega
  have b2 : (o : Int) ≤ 31 := by omega
  go_enter Sagg.func56, Sagg.ntmps56
  go_wp2
  all_goals (go_ret; exact ⟨rfl, rfl⟩)
theorem nameArith_32 (w : World) : Calls Sagg.prog 56 #[.int .u8 32] w fun e w' => e = .returned (.string ⟨#[75, 69, 67, 67, 65, 75, 50, 53, 54]⟩) ∧ w' = w := by
  go_enter Sagg.func56, Sagg.ntmps56
  go_wp2
  go_ret
  exact ⟨rfl, rfl⟩
theorem nameArith_33 (o : Nat) (h1 : 33 ≤ o) (h2 : o ≤ 47) (w : World) : Calls Sagg.prog 56 #[.int .u8 (o : Int)] w fun e w' => e = .returned (.string ⟨#[]⟩) ∧ w' = w := by
  have b1 : (33 : Int) ≤ o := by omega
  have b2 : (o : Int) ≤ 47 := by omega
  go_enter Sagg.func56, Sagg.ntmps56
  go_wp2
  all_goals (go_ret; exact ⟨rfl, rfl⟩)

theorem nameArith_calls (o : Nat) (h1 : 0 ≤ o) (h2 : o ≤ 47) (h3 : o < 95 ∨ 164 < o) (w : World) : Calls Sagg.prog 56 #[.int .u8 (o : Int)] w fun e w' => e = .returned (.string (nameStr o)) ∧ w' = w := by
  have key : o = 0 ∨ o = 1 ∨ o = 2 ∨ o = 3 ∨ o = 4 ∨ o = 5 ∨ o = 6 ∨ o = 7 ∨ o = 8 ∨ o = 9 ∨ o = 10 ∨ o = 11 ∨ (12 ≤ o ∧ o ≤ 15) ∨ o = 16 ∨ o = 17 ∨ o = 18 ∨ o = 19 ∨ o = 20 ∨ o = 21 ∨ o = 22 ∨ o = 23 ∨ o = 24 ∨ o = 25 ∨ o = 26 ∨ o = 27 ∨ o = 28 ∨ o = 29 ∨ (30 ≤ o ∧ o ≤ 31) ∨ o = 32 ∨ (33 ≤ o ∧ o ≤ 47) := by omega
  rcases key with rfl | rfl | rfl | rfl | rfl | rfl | rfl | rfl | rfl | rfl | rfl | rfl | ⟨h1, h2⟩ | rfl | rfl | rfl | rfl | rfl | rfl | rfl | rfl | rfl | rfl | rfl | rfl | rfl | rfl | ⟨h1, h2⟩ | rfl | ⟨h1, h2⟩
  · exact nameArith_0 w
  · exact nameArith_1 w
  · exact nameArith_2 w
  · exact nameArith_3 w
  · exact nameArith_4 w
  · exact nameArith_5 w
  · exact nameArith_6 w
  · exact nameArith_7 w
  · exact nameArith_8 w
  · exact nameArith_9 w
  · exact nameArith_10 w
  · exact nameArith_11 w
  · rw [show nameStr o = ⟨#[]⟩ from (by decide +kernel : ∀ o, o < 256 → 12 ≤ o → o ≤ 15 → nameStr o = ⟨#[]⟩) o (by omega) h1 h2]
    exact nameArith_12 o h1 h2 w
  · exact nameArith_16 w
  · exact nameArith_17 w
  · exact nameArith_18 w
  · exact nameArith_19 w
  · exact nameArith_20 w
  · exact nameArith_21 w
  · exact nameArith_22 w
  · exact nameArith_23 w
  · exact nameArith_24 w
  · exact nameArith_25 w
  · exact nameArith_26 w
  · exact nameArith_27 w
  · exact nameArith_28 w
  · exact nameArith_29 w
  · rw [show nameStr o = ⟨#[]⟩ from (by decide +kernel : ∀ o, o < 256 → 30 ≤ o → o ≤ 31 → nameStr o = ⟨#[]⟩) o (by omega) h1 h2]
    exact nameArith_30 o h1 h2 w
  · exact nameArith_32 w
  · rw [show nameStr o = ⟨#[]⟩ from (by decide +kernel : ∀ o, o < 256 → 33 ≤ o → o ≤ 47 → nameStr o = ⟨#[]⟩) o (by omega) h1 h2]
    exact nameArith_33 o h1 h2 w
end Go.Proofs.Ygcsag
