/-
  WALKS: op.Imm, op.Family (made by program: a range of o a theorem).
-/
import Derived.Test.YgcsagOpWalk
namespace Go.Proofs.Ygcsag
open Go.RowKit
set_option linter.unusedSimpArgs false
set_option linter.unusedVariables false

theorem imm_calls (o : Nat) (ho : o < 256) (w : World) : Calls Sagg.prog 31 #[.int .u8 (o : Int)] w fun e w' => e = .returned (.int .u8 (immList.getD o 0)) ∧ w' = w := by
  have hs : ∀ o, o < 256 → immList.getD o 0 = if 95 < o ∧ o ≤ 127 then (o : Int) - 95 else 0 := by decide +kernel
  by_cases h : 95 < o ∧ o ≤ 127
  · rw [hs o ho, if_pos h]
    obtain ⟨h1, h2⟩ := h
    have b1 : (95 : Int) < o := by omega
    have b2 : (o : Int) ≤ 127 := by omega
    clear hs
    go_enter Sagg.func31, Sagg.ntmps31
    go_wp2
    go_ret
    exact ⟨rfl, rfl⟩
  · rw [hs o ho, if_neg h]
    clear hs
    by_cases h1 : 95 < o
    · have b1 : (95 : Int) < o := by omega
      have b2 : (127 : Int) < o := by omega
      go_enter Sagg.func31, Sagg.ntmps31
      go_wp2
      go_ret
      exact ⟨rfl, rfl⟩
    · have b1 : (o : Int) ≤ 95 := by omega
      go_enter Sagg.func31, Sagg.ntmps31
      go_wp2
      go_ret
      exact ⟨rfl, rfl⟩

theorem fam_0 (o : Nat) (h1 : 0 ≤ o) (h2 : o ≤ 0) (w : World) : Calls Sagg.prog 32 #[.int .u8 (o : Int)] w fun e w' => e = .returned (.int .u8 31) ∧ w' = w := by
  have b1 : (0 : Int) ≤ o := by omega
  have b2 : (o : Int) ≤ 0 := by omega
  go_enter Sagg.func32, Sagg.ntmps32
  go_wp2
  all_goals (go_ret; exact ⟨rfl, rfl⟩)
theorem fam_1 (o : Nat) (h1 : 1 ≤ o) (h2 : o ≤ 11) (w : World) : Calls Sagg.prog 32 #[.int .u8 (o : Int)] w fun e w' => e = .returned (.int .u8 1) ∧ w' = w := by
  have b1 : (1 : Int) ≤ o := by omega
  have b2 : (o : Int) ≤ 11 := by omega
  go_enter Sagg.func32, Sagg.ntmps32
  go_wp2
  all_goals (go_ret; exact ⟨rfl, rfl⟩)
theorem fam_12 (o : Nat) (h1 : 12 ≤ o) (h2 : o ≤ 15) (w : World) : Calls Sagg.prog 32 #[.int .u8 (o : Int)] w fun e w' => e = .returned (.int .u8 0) ∧ w' = w := by
  have b1 : (12 : Int) ≤ o := by omega
  have b2 : (o : Int) ≤ 15 := by omega
  go_enter Sagg.func32, Sagg.ntmps32
  go_wp2
  all_goals (go_ret; exact ⟨rfl, rfl⟩)
theorem fam_16 (o : Nat) (h1 : 16 ≤ o) (h2 : o ≤ 29) (w : World) : Calls Sagg.prog 32 #[.int .u8 (o : Int)] w fun e w' => e = .returned (.int .u8 1) ∧ w' = w := by
  have b1 : (16 : Int) ≤ o := by omega
  have b2 : (o : Int) ≤ 29 := by omega
  go_enter Sagg.func32, Sagg.ntmps32
  go_wp2
  all_goals (go_ret; exact ⟨rfl, rfl⟩)
theorem fam_30 (o : Nat) (h1 : 30 ≤ o) (h2 : o ≤ 31) (w : World) : Calls Sagg.prog 32 #[.int .u8 (o : Int)] w fun e w' => e = .returned (.int .u8 0) ∧ w' = w := by
  have b1 : (30 : Int) ≤ o := by omega
  have b2 : (o : Int) ≤ 31 := by omega
  go_enter Sagg.func32, Sagg.ntmps32
  go_wp2
  all_goals (go_ret; exact ⟨rfl, rfl⟩)
theorem fam_32 (o : Nat) (h1 : 32 ≤ o) (h2 : o ≤ 32) (w : World) : Calls Sagg.prog 32 #[.int .u8 (o : Int)] w fun e w' => e = .returned (.int .u8 1) ∧ w' = w := by
  have b1 : (32 : Int) ≤ o := by omega
  have b2 : (o : Int) ≤ 32 := by omega
  go_enter Sagg.func32, Sagg.ntmps32
  go_wp2
  all_goals (go_ret; exact ⟨rfl, rfl⟩)
theorem fam_33 (o : Nat) (h1 : 33 ≤ o) (h2 : o ≤ 47) (w : World) : Calls Sagg.prog 32 #[.int .u8 (o : Int)] w fun e w' => e = .returned (.int .u8 0) ∧ w' = w := by
  have b1 : (33 : Int) ≤ o := by omega
  have b2 : (o : Int) ≤ 47 := by omega
  go_enter Sagg.func32, Sagg.ntmps32
  go_wp2
  all_goals (go_ret; exact ⟨rfl, rfl⟩)
theorem fam_48 (o : Nat) (h1 : 48 ≤ o) (h2 : o ≤ 72) (w : World) : Calls Sagg.prog 32 #[.int .u8 (o : Int)] w fun e w' => e = .returned (.int .u8 2) ∧ w' = w := by
  have b1 : (48 : Int) ≤ o := by omega
  have b2 : (o : Int) ≤ 72 := by omega
  go_enter Sagg.func32, Sagg.ntmps32
  go_wp2
  all_goals (go_ret; exact ⟨rfl, rfl⟩)
theorem fam_73 (o : Nat) (h1 : 73 ≤ o) (h2 : o ≤ 79) (w : World) : Calls Sagg.prog 32 #[.int .u8 (o : Int)] w fun e w' => e = .returned (.int .u8 0) ∧ w' = w := by
  have b1 : (73 : Int) ≤ o := by omega
  have b2 : (o : Int) ≤ 79 := by omega
  go_enter Sagg.func32, Sagg.ntmps32
  go_wp2
  all_goals (go_ret; exact ⟨rfl, rfl⟩)
theorem fam_80 (o : Nat) (h1 : 80 ≤ o) (h2 : o ≤ 83) (w : World) : Calls Sagg.prog 32 #[.int .u8 (o : Int)] w fun e w' => e = .returned (.int .u8 2) ∧ w' = w := by
  have b1 : (80 : Int) ≤ o := by omega
  have b2 : (o : Int) ≤ 83 := by omega
  go_enter Sagg.func32, Sagg.ntmps32
  go_wp2
  all_goals (go_ret; exact ⟨rfl, rfl⟩)
theorem fam_84 (o : Nat) (h1 : 84 ≤ o) (h2 : o ≤ 85) (w : World) : Calls Sagg.prog 32 #[.int .u8 (o : Int)] w fun e w' => e = .returned (.int .u8 8) ∧ w' = w := by
  have b1 : (84 : Int) ≤ o := by omega
  have b2 : (o : Int) ≤ 85 := by omega
  go_enter Sagg.func32, Sagg.ntmps32
  go_wp2
  all_goals (go_ret; exact ⟨rfl, rfl⟩)
theorem fam_86 (o : Nat) (h1 : 86 ≤ o) (h2 : o ≤ 88) (w : World) : Calls Sagg.prog 32 #[.int .u8 (o : Int)] w fun e w' => e = .returned (.int .u8 4) ∧ w' = w := by
  have b1 : (86 : Int) ≤ o := by omega
  have b2 : (o : Int) ≤ 88 := by omega
  go_enter Sagg.func32, Sagg.ntmps32
  go_wp2
  all_goals (go_ret; exact ⟨rfl, rfl⟩)
theorem fam_89 (o : Nat) (h1 : 89 ≤ o) (h2 : o ≤ 89) (w : World) : Calls Sagg.prog 32 #[.int .u8 (o : Int)] w fun e w' => e = .returned (.int .u8 2) ∧ w' = w := by
  have b1 : (89 : Int) ≤ o := by omega
  have b2 : (o : Int) ≤ 89 := by omega
  go_enter Sagg.func32, Sagg.ntmps32
  go_wp2
  all_goals (go_ret; exact ⟨rfl, rfl⟩)
theorem fam_90 (o : Nat) (h1 : 90 ≤ o) (h2 : o ≤ 91) (w : World) : Calls Sagg.prog 32 #[.int .u8 (o : Int)] w fun e w' => e = .returned (.int .u8 4) ∧ w' = w := by
  have b1 : (90 : Int) ≤ o := by omega
  have b2 : (o : Int) ≤ 91 := by omega
  go_enter Sagg.func32, Sagg.ntmps32
  go_wp2
  all_goals (go_ret; exact ⟨rfl, rfl⟩)
theorem fam_92 (o : Nat) (h1 : 92 ≤ o) (h2 : o ≤ 93) (w : World) : Calls Sagg.prog 32 #[.int .u8 (o : Int)] w fun e w' => e = .returned (.int .u8 8) ∧ w' = w := by
  have b1 : (92 : Int) ≤ o := by omega
  have b2 : (o : Int) ≤ 93 := by omega
  go_enter Sagg.func32, Sagg.ntmps32
  go_wp2
  all_goals (go_ret; exact ⟨rfl, rfl⟩)
theorem fam_94 (o : Nat) (h1 : 94 ≤ o) (h2 : o ≤ 159) (w : World) : Calls Sagg.prog 32 #[.int .u8 (o : Int)] w fun e w' => e = .returned (.int .u8 2) ∧ w' = w := by
  have b1 : (94 : Int) ≤ o := by omega
  have b2 : (o : Int) ≤ 159 := by omega
  go_enter Sagg.func32, Sagg.ntmps32
  go_wp2
  all_goals (go_ret; exact ⟨rfl, rfl⟩)
theorem fam_160 (o : Nat) (h1 : 160 ≤ o) (h2 : o ≤ 164) (w : World) : Calls Sagg.prog 32 #[.int .u8 (o : Int)] w fun e w' => e = .returned (.int .u8 8) ∧ w' = w := by
  have b1 : (160 : Int) ≤ o := by omega
  have b2 : (o : Int) ≤ 164 := by omega
  go_enter Sagg.func32, Sagg.ntmps32
  go_wp2
  all_goals (go_ret; exact ⟨rfl, rfl⟩)
theorem fam_165 (o : Nat) (h1 : 165 ≤ o) (h2 : o ≤ 239) (w : World) : Calls Sagg.prog 32 #[.int .u8 (o : Int)] w fun e w' => e = .returned (.int .u8 0) ∧ w' = w := by
  have b1 : (165 : Int) ≤ o := by omega
  have b2 : (o : Int) ≤ 239 := by omega
  go_enter Sagg.func32, Sagg.ntmps32
  go_wp2
  all_goals (go_ret; exact ⟨rfl, rfl⟩)
theorem fam_240 (o : Nat) (h1 : 240 ≤ o) (h2 : o ≤ 242) (w : World) : Calls Sagg.prog 32 #[.int .u8 (o : Int)] w fun e w' => e = .returned (.int .u8 16) ∧ w' = w := by
  have b1 : (240 : Int) ≤ o := by omega
  have b2 : (o : Int) ≤ 242 := by omega
  go_enter Sagg.func32, Sagg.ntmps32
  go_wp2
  all_goals (go_ret; exact ⟨rfl, rfl⟩)
theorem fam_243 (o : Nat) (h1 : 243 ≤ o) (h2 : o ≤ 243) (w : World) : Calls Sagg.prog 32 #[.int .u8 (o : Int)] w fun e w' => e = .returned (.int .u8 31) ∧ w' = w := by
  have b1 : (243 : Int) ≤ o := by omega
  have b2 : (o : Int) ≤ 243 := by omega
  go_enter Sagg.func32, Sagg.ntmps32
  go_wp2
  all_goals (go_ret; exact ⟨rfl, rfl⟩)
theorem fam_244 (o : Nat) (h1 : 244 ≤ o) (h2 : o ≤ 245) (w : World) : Calls Sagg.prog 32 #[.int .u8 (o : Int)] w fun e w' => e = .returned (.int .u8 16) ∧ w' = w := by
  have b1 : (244 : Int) ≤ o := by omega
  have b2 : (o : Int) ≤ 245 := by omega
  go_enter Sagg.func32, Sagg.ntmps32
  go_wp2
  all_goals (go_ret; exact ⟨rfl, rfl⟩)
theorem fam_246 (o : Nat) (h1 : 246 ≤ o) (h2 : o ≤ 249) (w : World) : Calls Sagg.prog 32 #[.int .u8 (o : Int)] w fun e w' => e = .returned (.int .u8 0) ∧ w' = w := by
  have b1 : (246 : Int) ≤ o := by omega
  have b2 : (o : Int) ≤ 249 := by omega
  go_enter Sagg.func32, Sagg.ntmps32
  go_wp2
  all_goals (go_ret; exact ⟨rfl, rfl⟩)
theorem fam_250 (o : Nat) (h1 : 250 ≤ o) (h2 : o ≤ 250) (w : World) : Calls Sagg.prog 32 #[.int .u8 (o : Int)] w fun e w' => e = .returned (.int .u8 16) ∧ w' = w := by
  have b1 : (250 : Int) ≤ o := by omega
  have b2 : (o : Int) ≤ 250 := by omega
  go_enter Sagg.func32, Sagg.ntmps32
  go_wp2
  all_goals (go_ret; exact ⟨rfl, rfl⟩)
theorem fam_251 (o : Nat) (h1 : 251 ≤ o) (h2 : o ≤ 252) (w : World) : Calls Sagg.prog 32 #[.int .u8 (o : Int)] w fun e w' => e = .returned (.int .u8 0) ∧ w' = w := by
  have b1 : (251 : Int) ≤ o := by omega
  have b2 : (o : Int) ≤ 252 := by omega
  go_enter Sagg.func32, Sagg.ntmps32
  go_wp2
  all_goals (go_ret; exact ⟨rfl, rfl⟩)
theorem fam_253 (o : Nat) (h1 : 253 ≤ o) (h2 : o ≤ 253) (w : World) : Calls Sagg.prog 32 #[.int .u8 (o : Int)] w fun e w' => e = .returned (.int .u8 31) ∧ w' = w := by
  have b1 : (253 : Int) ≤ o := by omega
  have b2 : (o : Int) ≤ 253 := by omega
  go_enter Sagg.func32, Sagg.ntmps32
  go_wp2
  all_goals (go_ret; exact ⟨rfl, rfl⟩)
theorem fam_254 (o : Nat) (h1 : 254 ≤ o) (h2 : o ≤ 254) (w : World) : Calls Sagg.prog 32 #[.int .u8 (o : Int)] w fun e w' => e = .returned (.int .u8 0) ∧ w' = w := by
  have b1 : (254 : Int) ≤ o := by omega
  have b2 : (o : Int) ≤ 254 := by omega
  go_enter Sagg.func32, Sagg.ntmps32
  go_wp2
  all_goals (go_ret; exact ⟨rfl, rfl⟩)
theorem fam_255 (o : Nat) (h1 : 255 ≤ o) (h2 : o ≤ 255) (w : World) : Calls Sagg.prog 32 #[.int .u8 (o : Int)] w fun e w' => e = .returned (.int .u8 16) ∧ w' = w := by
  have b1 : (255 : Int) ≤ o := by omega
  have b2 : (o : Int) ≤ 255 := by omega
  go_enter Sagg.func32, Sagg.ntmps32
  go_wp2
  all_goals (go_ret; exact ⟨rfl, rfl⟩)

theorem fam_calls (o : Nat) (ho : o < 256) (w : World) : Calls Sagg.prog 32 #[.int .u8 (o : Int)] w fun e w' => e = .returned (.int .u8 (famList.getD o 0)) ∧ w' = w := by
  have key : (0 ≤ o ∧ o ≤ 0) ∨ (1 ≤ o ∧ o ≤ 11) ∨ (12 ≤ o ∧ o ≤ 15) ∨ (16 ≤ o ∧ o ≤ 29) ∨ (30 ≤ o ∧ o ≤ 31) ∨ (32 ≤ o ∧ o ≤ 32) ∨ (33 ≤ o ∧ o ≤ 47) ∨ (48 ≤ o ∧ o ≤ 72) ∨ (73 ≤ o ∧ o ≤ 79) ∨ (80 ≤ o ∧ o ≤ 83) ∨ (84 ≤ o ∧ o ≤ 85) ∨ (86 ≤ o ∧ o ≤ 88) ∨ (89 ≤ o ∧ o ≤ 89) ∨ (90 ≤ o ∧ o ≤ 91) ∨ (92 ≤ o ∧ o ≤ 93) ∨ (94 ≤ o ∧ o ≤ 159) ∨ (160 ≤ o ∧ o ≤ 164) ∨ (165 ≤ o ∧ o ≤ 239) ∨ (240 ≤ o ∧ o ≤ 242) ∨ (243 ≤ o ∧ o ≤ 243) ∨ (244 ≤ o ∧ o ≤ 245) ∨ (246 ≤ o ∧ o ≤ 249) ∨ (250 ≤ o ∧ o ≤ 250) ∨ (251 ≤ o ∧ o ≤ 252) ∨ (253 ≤ o ∧ o ≤ 253) ∨ (254 ≤ o ∧ o ≤ 254) ∨ (255 ≤ o ∧ o ≤ 255) := by omega
  rcases key with ⟨h1, h2⟩ | ⟨h1, h2⟩ | ⟨h1, h2⟩ | ⟨h1, h2⟩ | ⟨h1, h2⟩ | ⟨h1, h2⟩ | ⟨h1, h2⟩ | ⟨h1, h2⟩ | ⟨h1, h2⟩ | ⟨h1, h2⟩ | ⟨h1, h2⟩ | ⟨h1, h2⟩ | ⟨h1, h2⟩ | ⟨h1, h2⟩ | ⟨h1, h2⟩ | ⟨h1, h2⟩ | ⟨h1, h2⟩ | ⟨h1, h2⟩ | ⟨h1, h2⟩ | ⟨h1, h2⟩ | ⟨h1, h2⟩ | ⟨h1, h2⟩ | ⟨h1, h2⟩ | ⟨h1, h2⟩ | ⟨h1, h2⟩ | ⟨h1, h2⟩ | ⟨h1, h2⟩
  · rw [show famList.getD o 0 = 31 from (by decide +kernel : ∀ o, o < 256 → 0 ≤ o → o ≤ 0 → famList.getD o 0 = 31) o ho h1 h2]
    exact fam_0 o h1 h2 w
  · rw [show famList.getD o 0 = 1 from (by decide +kernel : ∀ o, o < 256 → 1 ≤ o → o ≤ 11 → famList.getD o 0 = 1) o ho h1 h2]
    exact fam_1 o h1 h2 w
  · rw [show famList.getD o 0 = 0 from (by decide +kernel : ∀ o, o < 256 → 12 ≤ o → o ≤ 15 → famList.getD o 0 = 0) o ho h1 h2]
    exact fam_12 o h1 h2 w
  · rw [show famList.getD o 0 = 1 from (by decide +kernel : ∀ o, o < 256 → 16 ≤ o → o ≤ 29 → famList.getD o 0 = 1) o ho h1 h2]
    exact fam_16 o h1 h2 w
  · rw [show famList.getD o 0 = 0 from (by decide +kernel : ∀ o, o < 256 → 30 ≤ o → o ≤ 31 → famList.getD o 0 = 0) o ho h1 h2]
    exact fam_30 o h1 h2 w
  · rw [show famList.getD o 0 = 1 from (by decide +kernel : ∀ o, o < 256 → 32 ≤ o → o ≤ 32 → famList.getD o 0 = 1) o ho h1 h2]
    exact fam_32 o h1 h2 w
  · rw [show famList.getD o 0 = 0 from (by decide +kernel : ∀ o, o < 256 → 33 ≤ o → o ≤ 47 → famList.getD o 0 = 0) o ho h1 h2]
    exact fam_33 o h1 h2 w
  · rw [show famList.getD o 0 = 2 from (by decide +kernel : ∀ o, o < 256 → 48 ≤ o → o ≤ 72 → famList.getD o 0 = 2) o ho h1 h2]
    exact fam_48 o h1 h2 w
  · rw [show famList.getD o 0 = 0 from (by decide +kernel : ∀ o, o < 256 → 73 ≤ o → o ≤ 79 → famList.getD o 0 = 0) o ho h1 h2]
    exact fam_73 o h1 h2 w
  · rw [show famList.getD o 0 = 2 from (by decide +kernel : ∀ o, o < 256 → 80 ≤ o → o ≤ 83 → famList.getD o 0 = 2) o ho h1 h2]
    exact fam_80 o h1 h2 w
  · rw [show famList.getD o 0 = 8 from (by decide +kernel : ∀ o, o < 256 → 84 ≤ o → o ≤ 85 → famList.getD o 0 = 8) o ho h1 h2]
    exact fam_84 o h1 h2 w
  · rw [show famList.getD o 0 = 4 from (by decide +kernel : ∀ o, o < 256 → 86 ≤ o → o ≤ 88 → famList.getD o 0 = 4) o ho h1 h2]
    exact fam_86 o h1 h2 w
  · rw [show famList.getD o 0 = 2 from (by decide +kernel : ∀ o, o < 256 → 89 ≤ o → o ≤ 89 → famList.getD o 0 = 2) o ho h1 h2]
    exact fam_89 o h1 h2 w
  · rw [show famList.getD o 0 = 4 from (by decide +kernel : ∀ o, o < 256 → 90 ≤ o → o ≤ 91 → famList.getD o 0 = 4) o ho h1 h2]
    exact fam_90 o h1 h2 w
  · rw [show famList.getD o 0 = 8 from (by decide +kernel : ∀ o, o < 256 → 92 ≤ o → o ≤ 93 → famList.getD o 0 = 8) o ho h1 h2]
    exact fam_92 o h1 h2 w
  · rw [show famList.getD o 0 = 2 from (by decide +kernel : ∀ o, o < 256 → 94 ≤ o → o ≤ 159 → famList.getD o 0 = 2) o ho h1 h2]
    exact fam_94 o h1 h2 w
  · rw [show famList.getD o 0 = 8 from (by decide +kernel : ∀ o, o < 256 → 160 ≤ o → o ≤ 164 → famList.getD o 0 = 8) o ho h1 h2]
    exact fam_160 o h1 h2 w
  · rw [show famList.getD o 0 = 0 from (by decide +kernel : ∀ o, o < 256 → 165 ≤ o → o ≤ 239 → famList.getD o 0 = 0) o ho h1 h2]
    exact fam_165 o h1 h2 w
  · rw [show famList.getD o 0 = 16 from (by decide +kernel : ∀ o, o < 256 → 240 ≤ o → o ≤ 242 → famList.getD o 0 = 16) o ho h1 h2]
    exact fam_240 o h1 h2 w
  · rw [show famList.getD o 0 = 31 from (by decide +kernel : ∀ o, o < 256 → 243 ≤ o → o ≤ 243 → famList.getD o 0 = 31) o ho h1 h2]
    exact fam_243 o h1 h2 w
  · rw [show famList.getD o 0 = 16 from (by decide +kernel : ∀ o, o < 256 → 244 ≤ o → o ≤ 245 → famList.getD o 0 = 16) o ho h1 h2]
    exact fam_244 o h1 h2 w
  · rw [show famList.getD o 0 = 0 from (by decide +kernel : ∀ o, o < 256 → 246 ≤ o → o ≤ 249 → famList.getD o 0 = 0) o ho h1 h2]
    exact fam_246 o h1 h2 w
  · rw [show famList.getD o 0 = 16 from (by decide +kernel : ∀ o, o < 256 → 250 ≤ o → o ≤ 250 → famList.getD o 0 = 16) o ho h1 h2]
    exact fam_250 o h1 h2 w
  · rw [show famList.getD o 0 = 0 from (by decide +kernel : ∀ o, o < 256 → 251 ≤ o → o ≤ 252 → famList.getD o 0 = 0) o ho h1 h2]
    exact fam_251 o h1 h2 w
  · rw [show famList.getD o 0 = 31 from (by decide +kernel : ∀ o, o < 256 → 253 ≤ o → o ≤ 253 → famList.getD o 0 = 31) o ho h1 h2]
    exact fam_253 o h1 h2 w
  · rw [show famList.getD o 0 = 0 from (by decide +kernel : ∀ o, o < 256 → 254 ≤ o → o ≤ 254 → famList.getD o 0 = 0) o ho h1 h2]
    exact fam_254 o h1 h2 w
  · rw [show famList.getD o 0 = 16 from (by decide +kernel : ∀ o, o < 256 → 255 ≤ o → o ≤ 255 → famList.getD o 0 = 16) o ho h1 h2]
    exact fam_255 o h1 h2 w
end Go.Proofs.Ygcsag
