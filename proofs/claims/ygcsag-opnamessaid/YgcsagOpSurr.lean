/-
  WALKS: op.nameSurroundings (made by program: a range of o a theorem).
-/
import Derived.Test.YgcsagOpWalk
namespace Go.Proofs.Ygcsag
open Go.RowKit
set_option linter.unusedSimpArgs false
set_option linter.unusedVariables false

theorem nameSurroundings_48 (w : World) : Calls Sagg.prog 57 #[.int .u8 48] w fun e w' => e = .returned (.string ⟨#[65, 68, 68, 82, 69, 83, 83]⟩) ∧ w' = w := by
  go_enter Sagg.func57, Sagg.ntmps57
  go_wp2
  go_ret
  exact ⟨rfl, rfl⟩
theorem nameSurroundings_49 (w : World) : Calls Sagg.prog 57 #[.int .u8 49] w fun e w' => e = .returned (.string ⟨#[66, 65, 76, 65, 78, 67, 69]⟩) ∧ w' = w := by
  go_enter Sagg.func57, Sagg.ntmps57
  go_wp2
  go_ret
  exact ⟨rfl, rfl⟩
theorem nameSurroundings_50 (w : World) : Calls Sagg.prog 57 #[.int .u8 50] w fun e w' => e = .returned (.string ⟨#[79, 82, 73, 71, 73, 78]⟩) ∧ w' = w := by
  go_enter Sagg.func57, Sagg.ntmps57
  go_wp2
  go_ret
  exact ⟨rfl, rfl⟩
theorem nameSurroundings_51 (w : World) : Calls Sagg.prog 57 #[.int .u8 51] w fun e w' => e = .returned (.string ⟨#[67, 65, 76, 76, 69, 82]⟩) ∧ w' = w := by
  go_enter Sagg.func57, Sagg.ntmps57
  go_wp2
  go_ret
  exact ⟨rfl, rfl⟩
theorem nameSurroundings_52 (w : World) : Calls Sagg.prog 57 #[.int .u8 52] w fun e w' => e = .returned (.string ⟨#[67, 65, 76, 76, 86, 65, 76, 85, 69]⟩) ∧ w' = w := by
  go_enter Sagg.func57, Sagg.ntmps57
  go_wp2
  go_ret
  exact ⟨rfl, rfl⟩
theorem nameSurroundings_53 (w : World) : Calls Sagg.prog 57 #[.int .u8 53] w fun e w' => e = .returned (.string ⟨#[67, 65, 76, 76, 68, 65, 84, 65, 76, 79, 65, 68]⟩) ∧ w' = w := by
  go_enter Sagg.func57, Sagg.ntmps57
  go_wp2
  go_ret
  exact ⟨rfl, rfl⟩
theorem nameSurroundings_54 (w : World) : Calls Sagg.prog 57 #[.int .u8 54] w fun e w' => e = .returned (.string ⟨#[67, 65, 76, 76, 68, 65, 84, 65, 83, 73, 90, 69]⟩) ∧ w' = w := by
  go_enter Sagg.func57, Sagg.ntmps57
  go_wp2
  go_ret
  exact ⟨rfl, rfl⟩
theorem nameSurroundings_55 (w : World) : Calls Sagg.prog 57 #[.int .u8 55] w fun e w' => e = .returned (.string ⟨#[67, 65, 76, 76, 68, 65, 84, 65, 67, 79, 80, 89]⟩) ∧ w' = w := by
  go_enter Sagg.func57, Sagg.ntmps57
  go_wp2
  go_ret
  exact ⟨rfl, rfl⟩
theorem nameSurroundings_56 (w : World) : Calls Sagg.prog 57 #[.int .u8 56] w fun e w' => e = .returned (.string ⟨#[67, 79, 68, 69, 83, 73, 90, 69]⟩) ∧ w' = w := by
  go_enter Sagg.func57, Sagg.ntmps57
  go_wp2
  go_ret
  exact ⟨rfl, rfl⟩
theorem nameSurroundings_57 (w : World) : Calls Sagg.prog 57 #[.int .u8 57] w fun e w' => e = .returned (.string ⟨#[67, 79, 68, 69, 67, 79, 80, 89]⟩) ∧ w' = w := by
  go_enter Sagg.func57, Sagg.ntmps57
  go_wp2
  go_ret
  exact ⟨rfl, rfl⟩
theorem nameSurroundings_58 (w : World) : Calls Sagg.prog 57 #[.int .u8 58] w fun e w' => e = .returned (.string ⟨#[71, 65, 83, 80, 82, 73, 67, 69]⟩) ∧ w' = w := by
  go_enter Sagg.func57, Sagg.ntmps57
  go_wp2
  go_ret
  exact ⟨rfl, rfl⟩
theorem nameSurroundings_59 (w : World) : Calls Sagg.prog 57 #[.int .u8 59] w fun e w' => e = .returned (.string ⟨#[69, 88, 84, 67, 79, 68, 69, 83, 73, 90, 69]⟩) ∧ w' = w := by
  go_enter Sagg.func57, Sagg.ntmps57
  go_wp2
  go_ret
  exact ⟨rfl, rfl⟩
theorem nameSurroundings_60 (w : World) : Calls Sagg.prog 57 #[.int .u8 60] w fun e w' => e = .returned (.string ⟨#[69, 88, 84, 67, 79, 68, 69, 67, 79, 80, 89]⟩) ∧ w' = w := by
  go_enter Sagg.func57, Sagg.ntmps57
  go_wp2
  go_ret
  exact ⟨rfl, rfl⟩
theorem nameSurroundings_61 (w : World) : Calls Sagg.prog 57 #[.int .u8 61] w fun e w' => e = .returned (.string ⟨#[82, 69, 84, 85, 82, 78, 68, 65, 84, 65, 83, 73, 90, 69]⟩) ∧ w' = w := by
  go_enter Sagg.func57, Sagg.ntmps57
  go_wp2
  go_ret
  exact ⟨rfl, rfl⟩
theorem nameSurroundings_62 (w : World) : Calls Sagg.prog 57 #[.int .u8 62] w fun e w' => e = .returned (.string ⟨#[82, 69, 84, 85, 82, 78, 68, 65, 84, 65, 67, 79, 80, 89]⟩) ∧ w' = w := by
  go_enter Sagg.func57, Sagg.ntmps57
  go_wp2
  go_ret
  exact ⟨rfl, rfl⟩
theorem nameSurroundings_63 (w : World) : Calls Sagg.prog 57 #[.int .u8 63] w fun e w' => e = .returned (.string ⟨#[69, 88, 84, 67, 79, 68, 69, 72, 65, 83, 72]⟩) ∧ w' = w := by
  go_enter Sagg.func57, Sagg.ntmps57
  go_wp2
  go_ret
  exact ⟨rfl, rfl⟩
theorem nameSurroundings_64 (w : World) : Calls Sagg.prog 57 #[.int .u8 64] w fun e w' => e = .returned (.string ⟨#[66, 76, 79, 67, 75, 72, 65, 83, 72]⟩) ∧ w' = w := by
  go_enter Sagg.func57, Sagg.ntmps57
  go_wp2
  go_ret
  exact ⟨rfl, rfl⟩
theorem nameSurroundings_65 (w : World) : Calls Sagg.prog 57 #[.int .u8 65] w fun e w' => e = .returned (.string ⟨#[67, 79, 73, 78, 66, 65, 83, 69]⟩) ∧ w' = w := by
  go_enter Sagg.func57, Sagg.ntmps57
  go_wp2
  go_ret
  exact ⟨rfl, rfl⟩
theorem nameSurroundings_66 (w : World) : Calls Sagg.prog 57 #[.int .u8 66] w fun e w' => e = .returned (.string ⟨#[84, 73, 77, 69, 83, 84, 65, 77, 80]⟩) ∧ w' = w := by
  go_enter Sagg.func57, Sagg.ntmps57
  go_wp2
  go_ret
  exact ⟨rfl, rfl⟩
theorem nameSurroundings_67 (w : World) : Calls Sagg.prog 57 #[.int .u8 67] w fun e w' => e = .returned (.string ⟨#[78, 85, 77, 66, 69, 82]⟩) ∧ w' = w := by
  go_enter Sagg.func57, Sagg.ntmps57
  go_wp2
  go_ret
  exact ⟨rfl, rfl⟩
theorem nameSurroundings_68 (w : World) : Calls Sagg.prog 57 #[.int .u8 68] w fun e w' => e = .returned (.string ⟨#[80, 82, 69, 86, 82, 65, 78, 68, 65, 79]⟩) ∧ w' = w := by
  go_enter Sagg.func57, Sagg.ntmps57
  go_wp2
  go_ret
  exact ⟨rfl, rfl⟩
theorem nameSurroundings_69 (w : World) : Calls Sagg.prog 57 #[.int .u8 69] w fun e w' => e = .returned (.string ⟨#[71, 65, 83, 76, 73, 77, 73, 84]⟩) ∧ w' = w := by
  go_enter Sagg.func57, Sagg.ntmps57
  go_wp2
  go_ret
  exact ⟨rfl, rfl⟩
theorem nameSurroundings_70 (w : World) : Calls Sagg.prog 57 #[.int .u8 70] w fun e w' => e = .returned (.string ⟨#[67, 72, 65, 73, 78, 73, 68]⟩) ∧ w' = w := by
  go_enter Sagg.func57, Sagg.ntmps57
  go_wp2
  go_ret
  exact ⟨rfl, rfl⟩
theorem nameSurroundings_71 (w : World) : Calls Sagg.prog 57 #[.int .u8 71] w fun e w' => e = .returned (.string ⟨#[83, 69, 76, 70, 66, 65, 76, 65, 78, 67, 69]⟩) ∧ w' = w := by
  go_enter Sagg.func57, Sagg.ntmps57
  go_wp2
  go_ret
  exact ⟨rfl, rfl⟩
theorem nameSurroundings_72 (w : World) : Calls Sagg.prog 57 #[.int .u8 72] w fun e w' => e = .returned (.string ⟨#[66, 65, 83, 69, 70, 69, 69]⟩) ∧ w' = w := by
  go_enter Sagg.func57, Sagg.ntmps57
  go_wp2
  go_ret
  exact ⟨rfl, rfl⟩
theorem nameSurroundings_73 (o : Nat) (h1 : 73 ≤ o) (h2 : o ≤ 79) (w : World) : Calls Sagg.prog 57 #[.int .u8 (o : Int)] w fun e w' => e = .returned (.string ⟨#[]⟩) ∧ w' = w := by
  have b1 : (73 : Int) ≤ o := by omega
  have b2 : (o : Int) ≤ 79 := by omega
  go_enter Sagg.func57, Sagg.ntmps57
  go_wp2
  all_goals (go_ret; exact ⟨rfl, rfl⟩)

theorem nameSurroundings_calls (o : Nat) (h1 : 48 ≤ o) (h2 : o ≤ 79) (h3 : o < 95 ∨ 164 < o) (w : World) : Calls Sagg.prog 57 #[.int .u8 (o : Int)] w fun e w' => e = .returned (.string (nameStr o)) ∧ w' = w := by
  have key : o = 48 ∨ o = 49 ∨ o = 50 ∨ o = 51 ∨ o = 52 ∨ o = 53 ∨ o = 54 ∨ o = 55 ∨ o = 56 ∨ o = 57 ∨ o = 58 ∨ o = 59 ∨ o = 60 ∨ o = 61 ∨ o = 62 ∨ o = 63 ∨ o = 64 ∨ o = 65 ∨ o = 66 ∨ o = 67 ∨ o = 68 ∨ o = 69 ∨ o = 70 ∨ o = 71 ∨ o = 72 ∨ (73 ≤ o ∧ o ≤ 79) := by omega
  rcases key with rfl | rfl | rfl | rfl | rfl | rfl | rfl | rfl | rfl | rfl | rfl | rfl | rfl | rfl | rfl | rfl | rfl | rfl | rfl | rfl | rfl | rfl | rfl | rfl | rfl | ⟨h1, h2⟩
  · exact nameSurroundings_48 w
  · exact nameSurroundings_49 w
  · exact nameSurroundings_50 w
  · exact nameSurroundings_51 w
  · exact nameSurroundings_52 w
  · exact nameSurroundings_53 w
  · exact nameSurroundings_54 w
  · exact nameSurroundings_55 w
  · exact nameSurroundings_56 w
  · exact nameSurroundings_57 w
  · exact nameSurroundings_58 w
  · exact nameSurroundings_59 w
  · exact nameSurroundings_60 w
  · exact nameSurroundings_61 w
  · exact nameSurroundings_62 w
  · exact nameSurroundings_63 w
  · exact nameSurroundings_64 w
  · exact nameSurroundings_65 w
  · exact nameSurroundings_66 w
  · exact nameSurroundings_67 w
  · exact nameSurroundings_68 w
  · exact nameSurroundings_69 w
  · exact nameSurroundings_70 w
  · exact nameSurroundings_71 w
  · exact nameSurroundings_72 w
  · rw [show nameStr o = ⟨#[]⟩ from (by decide +kernel : ∀ o, o < 256 → 73 ≤ o → o ≤ 79 → nameStr o = ⟨#[]⟩) o (by omega) h1 h2]
    exact nameSurroundings_73 o h1 h2 w
end Go.Proofs.Ygcsag
