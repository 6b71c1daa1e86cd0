/-
  WALKS: op.nameRest (made by program: a range of o a theorem).
-/
import Derived.Test.YgcsagOpWalk
namespace Go.Proofs.Ygcsag
open Go.RowKit
set_option linter.unusedSimpArgs false
set_option linter.unusedVariables false

theorem nameRest_80 (w : World) : Calls Sagg.prog 58 #[.int .u8 80] w fun e w' => e = .returned (.string ⟨#[80, 79, 80]⟩) ∧ w' = w := by
  go_enter Sagg.func58, Sagg.ntmps58
  go_wp2
  go_ret
  exact ⟨rfl, rfl⟩
theorem nameRest_81 (w : World) : Calls Sagg.prog 58 #[.int .u8 81] w fun e w' => e = .returned (.string ⟨#[77, 76, 79, 65, 68]⟩) ∧ w' = w := by
  go_enter Sagg.func58, Sagg.ntmps58
  go_wp2
  go_ret
  exact ⟨rfl, rfl⟩
theorem nameRest_82 (w : World) : Calls Sagg.prog 58 #[.int .u8 82] w fun e w' => e = .returned (.string ⟨#[77, 83, 84, 79, 82, 69]⟩) ∧ w' = w := by
  go_enter Sagg.func58, Sagg.ntmps58
  go_wp2
  go_ret
  exact ⟨rfl, rfl⟩
theorem nameRest_83 (w : World) : Calls Sagg.prog 58 #[.int .u8 83] w fun e w' => e = .returned (.string ⟨#[77, 83, 84, 79, 82, 69, 56]⟩) ∧ w' = w := by
  go_enter Sagg.func58, Sagg.ntmps58
  go_wp2
  go_ret
  exact ⟨rfl, rfl⟩
theorem nameRest_84 (w : World) : Calls Sagg.prog 58 #[.int .u8 84] w fun e w' => e = .returned (.string ⟨#[83, 76, 79, 65, 68]⟩) ∧ w' = w := by
  go_enter Sagg.func58, Sagg.ntmps58
  go_wp2
  go_ret
  exact ⟨rfl, rfl⟩
theorem nameRest_85 (w : World) : Calls Sagg.prog 58 #[.int .u8 85] w fun e w' => e = .returned (.string ⟨#[83, 83, 84, 79, 82, 69]⟩) ∧ w' = w := by
  go_enter Sagg.func58, Sagg.ntmps58
  go_wp2
  go_ret
  exact ⟨rfl, rfl⟩
theorem nameRest_86 (w : World) : Calls Sagg.prog 58 #[.int .u8 86] w fun e w' => e = .returned (.string ⟨#[74, 85, 77, 80]⟩) ∧ w' = w := by
  go_enter Sagg.func58, Sagg.ntmps58
  go_wp2
  go_ret
  exact ⟨rfl, rfl⟩
theorem nameRest_87 (w : World) : Calls Sagg.prog 58 #[.int .u8 87] w fun e w' => e = .returned (.string ⟨#[74, 85, 77, 80, 73]⟩) ∧ w' = w := by
  go_enter Sagg.func58, Sagg.ntmps58
  go_wp2
  go_ret
  exact ⟨rfl, rfl⟩
theorem nameRest_88 (w : World) : Calls Sagg.prog 58 #[.int .u8 88] w fun e w' => e = .returned (.string ⟨#[80, 67]⟩) ∧ w' = w := by
  go_enter Sagg.func58, Sagg.ntmps58
  go_wp2
  go_ret
  exact ⟨rfl, rfl⟩
theorem nameRest_89 (w : World) : Calls Sagg.prog 58 #[.int .u8 89] w fun e w' => e = .returned (.string ⟨#[77, 83, 73, 90, 69]⟩) ∧ w' = w := by
  go_enter Sagg.func58, Sagg.ntmps58
  go_wp2
  go_ret
  exact ⟨rfl, rfl⟩
theorem nameRest_90 (w : World) : Calls Sagg.prog 58 #[.int .u8 90] w fun e w' => e = .returned (.string ⟨#[71, 65, 83]⟩) ∧ w' = w := by
  go_enter Sagg.func58, Sagg.ntmps58
  go_wp2
  go_ret
  exact ⟨rfl, rfl⟩
theorem nameRest_91 (w : World) : Calls Sagg.prog 58 #[.int .u8 91] w fun e w' => e = .returned (.string ⟨#[74, 85, 77, 80, 68, 69, 83, 84]⟩) ∧ w' = w := by
  go_enter Sagg.func58, Sagg.ntmps58
  go_wp2
  go_ret
  exact ⟨rfl, rfl⟩
theorem nameRest_92 (w : World) : Calls Sagg.prog 58 #[.int .u8 92] w fun e w' => e = .returned (.string ⟨#[84, 76, 79, 65, 68]⟩) ∧ w' = w := by
  go_enter Sagg.func58, Sagg.ntmps58
  go_wp2
  go_ret
  exact ⟨rfl, rfl⟩
theorem nameRest_93 (w : World) : Calls Sagg.prog 58 #[.int .u8 93] w fun e w' => e = .returned (.string ⟨#[84, 83, 84, 79, 82, 69]⟩) ∧ w' = w := by
  go_enter Sagg.func58, Sagg.ntmps58
  go_wp2
  go_ret
  exact ⟨rfl, rfl⟩
theorem nameRest_94 (w : World) : Calls Sagg.prog 58 #[.int .u8 94] w fun e w' => e = .returned (.string ⟨#[77, 67, 79, 80, 89]⟩) ∧ w' = w := by
  go_enter Sagg.func58, Sagg.ntmps58
  go_wp2
  go_ret
  exact ⟨rfl, rfl⟩
theorem nameRest_165 (o : Nat) (h1 : 165 ≤ o) (h2 : o ≤ 239) (w : World) : Calls Sagg.prog 58 #[.int .u8 (o : Int)] w fun e w' => e = .returned (.string ⟨#[]⟩) ∧ w' = w := by
  have b1 : (165 : Int) ≤ o := by omega
  have b2 : (o : Int) ≤ 239 := by omega
  go_enter Sagg.func58, Sagg.ntmps58
  go_wp2
  all_goals (go_ret; exact ⟨rfl, rfl⟩)
theorem nameRest_240 (w : World) : Calls Sagg.prog 58 #[.int .u8 240] w fun e w' => e = .returned (.string ⟨#[67, 82, 69, 65, 84, 69]⟩) ∧ w' = w := by
  go_enter Sagg.func58, Sagg.ntmps58
  go_wp2
  go_ret
  exact ⟨rfl, rfl⟩
theorem nameRest_241 (w : World) : Calls Sagg.prog 58 #[.int .u8 241] w fun e w' => e = .returned (.string ⟨#[67, 65, 76, 76]⟩) ∧ w' = w := by
  go_enter Sagg.func58, Sagg.ntmps58
  go_wp2
  go_ret
  exact ⟨rfl, rfl⟩
theorem nameRest_242 (w : World) : Calls Sagg.prog 58 #[.int .u8 242] w fun e w' => e = .returned (.string ⟨#[67, 65, 76, 76, 67, 79, 68, 69]⟩) ∧ w' = w := by
  go_enter Sagg.func58, Sagg.ntmps58
  go_wp2
  go_ret
  exact ⟨rfl, rfl⟩
theorem nameRest_243 (w : World) : Calls Sagg.prog 58 #[.int .u8 243] w fun e w' => e = .returned (.string ⟨#[82, 69, 84, 85, 82, 78]⟩) ∧ w' = w := by
  go_enter Sagg.func58, Sagg.ntmps58
  go_wp2
  go_ret
  exact ⟨rfl, rfl⟩
theorem nameRest_244 (w : World) : Calls Sagg.prog 58 #[.int .u8 244] w fun e w' => e = .returned (.string ⟨#[68, 69, 76, 69, 71, 65, 84, 69, 67, 65, 76, 76]⟩) ∧ w' = w := by
  go_enter Sagg.func58, Sagg.ntmps58
  go_wp2
  go_ret
  exact ⟨rfl, rfl⟩
theorem nameRest_245 (w : World) : Calls Sagg.prog 58 #[.int .u8 245] w fun e w' => e = .returned (.string ⟨#[67, 82, 69, 65, 84, 69, 50]⟩) ∧ w' = w := by
  go_enter Sagg.func58, Sagg.ntmps58
  go_wp2
  go_ret
  exact ⟨rfl, rfl⟩
theorem nameRest_246 (o : Nat) (h1 : 246 ≤ o) (h2 : o ≤ 249) (w : World) : Calls Sagg.prog 58 #[.int .u8 (o : Int)] w fun e w' => e = .returned (.string ⟨#[]⟩) ∧ w' = w := by
  have b1 : (246 : Int) ≤ o := by omega
  have b2 : (o : Int) ≤ 249 := by omega
  go_enter Sagg.func58, Sagg.ntmps58
  go_wp2
  all_goals (go_ret; exact ⟨rfl, rfl⟩)
theorem nameRest_250 (w : World) : Calls Sagg.prog 58 #[.int .u8 250] w fun e w' => e = .returned (.string ⟨#[83, 84, 65, 84, 73, 67, 67, 65, 76, 76]⟩) ∧ w' = w := by
  go_enter Sagg.func58, Sagg.ntmps58
  go_wp2
  go_ret
  exact ⟨rfl, rfl⟩
theorem nameRest_251 (o : Nat) (h1 : 251 ≤ o) (h2 : o ≤ 252) (w : World) : Calls Sagg.prog 58 #[.int .u8 (o : Int)] w fun e w' => e = .returned (.string ⟨#[]⟩) ∧ w' = w := by
  have b1 : (251 : Int) ≤ o := by omega
  have b2 : (o : Int) ≤ 252 := by omega
  go_enter Sagg.func58, Sagg.ntmps58
  go_wp2
  all_goals (go_ret; exact ⟨rfl, rfl⟩)
theorem nameRest_253 (w : World) : Calls Sagg.prog 58 #[.int .u8 253] w fun e w' => e = .returned (.string ⟨#[82, 69, 86, 69, 82, 84]⟩) ∧ w' = w := by
  go_enter Sagg.func58, Sagg.ntmps58
  go_wp2
  go_ret
  exact ⟨rfl, rfl⟩
theorem nameRest_254 (w : World) : Calls Sagg.prog 58 #[.int .u8 254] w fun e w' => e = .returned (.string ⟨#[73, 78, 86, 65, 76, 73, 68]⟩) ∧ w' = w := by
  go_enter Sagg.func58, Sagg.ntmps58
  go_wp2
  go_ret
  exact ⟨rfl, rfl⟩
theorem nameRest_255 (w : World) : Calls Sagg.prog 58 #[.int .u8 255] w fun e w' => e = .returned (.string ⟨#[83, 69, 76, 70, 68, 69, 83, 84, 82, 85, 67, 84]⟩) ∧ w' = w := by
  go_enter Sagg.func58, Sagg.ntmps58
  go_wp2
  go_ret
  exact ⟨rfl, rfl⟩

theorem nameRest_calls (o : Nat) (h1 : 80 ≤ o) (h2 : o ≤ 255) (h3 : o < 95 ∨ 164 < o) (w : World) : Calls Sagg.prog 58 #[.int .u8 (o : Int)] w fun e w' => e = .returned (.string (nameStr o)) ∧ w' = w := by
  have key : o = 80 ∨ o = 81 ∨ o = 82 ∨ o = 83 ∨ o = 84 ∨ o = 85 ∨ o = 86 ∨ o = 87 ∨ o = 88 ∨ o = 89 ∨ o = 90 ∨ o = 91 ∨ o = 92 ∨ o = 93 ∨ o = 94 ∨ (165 ≤ o ∧ o ≤ 239) ∨ o = 240 ∨ o = 241 ∨ o = 242 ∨ o = 243 ∨ o = 244 ∨ o = 245 ∨ (246 ≤ o ∧ o ≤ 249) ∨ o = 250 ∨ (251 ≤ o ∧ o ≤ 252) ∨ o = 253 ∨ o = 254 ∨ o = 255 := by omega
  rcases key with rfl | rfl | rfl | rfl | rfl | rfl | rfl | rfl | rfl | rfl | rfl | rfl | rfl | rfl | rfl | ⟨h1, h2⟩ | rfl | rfl | rfl | rfl | rfl | rfl | ⟨h1, h2⟩ | rfl | ⟨h1, h2⟩ | rfl | rfl | rfl
  · exact nameRest_80 w
  · exact nameRest_81 w
  · exact nameRest_82 w
  · exact nameRest_83 w
  · exact nameRest_84 w
  · exact nameRest_85 w
  · exact nameRest_86 w
  · exact nameRest_87 w
  · exact nameRest_88 w
  · exact nameRest_89 w
  · exact nameRest_90 w
  · exact nameRest_91 w
  · exact nameRest_92 w
  · exact nameRest_93 w
  · exact nameRest_94 w
  · rw [show nameStr o = ⟨#[]⟩ from (by decide +kernel : ∀ o, o < 256 → 165 ≤ o → o ≤ 239 → nameStr o = ⟨#[]⟩) o (by omega) h1 h2]
    exact nameRest_165 o h1 h2 w
  · exact nameRest_240 w
  · exact nameRest_241 w
  · exact nameRest_242 w
  · exact nameRest_243 w
  · exact nameRest_244 w
  · exact nameRest_245 w
  · rw [show nameStr o = ⟨#[]⟩ from (by decide +kernel : ∀ o, o < 256 → 246 ≤ o → o ≤ 249 → nameStr o = ⟨#[]⟩) o (by omega) h1 h2]
    exact nameRest_246 o h1 h2 w
  · exact nameRest_250 w
  · rw [show nameStr o = ⟨#[]⟩ from (by decide +kernel : ∀ o, o < 256 → 251 ≤ o → o ≤ 252 → nameStr o = ⟨#[]⟩) o (by omega) h1 h2]
    exact nameRest_251 o h1 h2 w
  · exact nameRest_253 w
  · exact nameRest_254 w
  · exact nameRest_255 w
end Go.Proofs.Ygcsag
