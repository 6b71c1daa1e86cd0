/-
  WALKS: op.numbered, op.Name, law.OpNames.
-/
import Derived.Test.YgcsagOpFam
import Derived.Test.YgcsagOpArith
import Derived.Test.YgcsagOpSurr
import Derived.Test.YgcsagOpRest
import Derived.WalkSpells
namespace Go.Proofs.Ygcsag
open Go.RowKit
set_option linter.unusedSimpArgs false
set_option linter.unusedVariables false

theorem ret_str {a b : ByteArray} (h : a = b) : Ending.returned (.string a) = .returned (.string b) := by rw [h]

theorem numbered4_few (row : ByteArray) (n : Nat) (hn : n < 10) (hb : 5 * n + 5 ≤ row.size) (hm : row.size ≤ 1000) (w : World) :
    Calls Sagg.prog 55 #[.string row, .int .u8 4, .int .u8 (n : Int)] w fun e w' => e = .returned (.string (row.extract (5 * n) (5 * n + 5))) ∧ w' = w := by
  have b1 : (n : Int) < 10 := by omega
  have b2 : (5 : Int) * n + 5 ≤ (row.size : Int) := by omega
  go_enter Sagg.func55, Sagg.ntmps55
  go_wp2
  go_ret
  exact ⟨ret_str (by congr 1 <;> omega), rfl⟩

theorem numbered4_many (row : ByteArray) (n : Nat) (hn : 10 ≤ n) (hn2 : n < 200) (hb : 6 * n - 10 + 6 ≤ row.size) (hm : row.size ≤ 1000) (w : World) :
    Calls Sagg.prog 55 #[.string row, .int .u8 4, .int .u8 (n : Int)] w fun e w' => e = .returned (.string (row.extract (6 * n - 10) (6 * n - 10 + 6))) ∧ w' = w := by
  have b1 : (10 : Int) ≤ n := by omega
  have b2 : (6 : Int) * n - 10 + 6 ≤ (row.size : Int) := by omega
  go_enter Sagg.func55, Sagg.ntmps55
  go_wp2
  go_ret
  exact ⟨ret_str (by congr 1 <;> omega), rfl⟩

theorem numbered3_few (row : ByteArray) (n : Nat) (hn : n < 10) (hb : 4 * n + 4 ≤ row.size) (hm : row.size ≤ 1000) (w : World) :
    Calls Sagg.prog 55 #[.string row, .int .u8 3, .int .u8 (n : Int)] w fun e w' => e = .returned (.string (row.extract (4 * n) (4 * n + 4))) ∧ w' = w := by
  have b1 : (n : Int) < 10 := by omega
  have b2 : (4 : Int) * n + 4 ≤ (row.size : Int) := by omega
  go_enter Sagg.func55, Sagg.ntmps55
  go_wp2
  go_ret
  exact ⟨ret_str (by congr 1 <;> omega), rfl⟩

theorem numbered3_many (row : ByteArray) (n : Nat) (hn : 10 ≤ n) (hn2 : n < 200) (hb : 5 * n - 10 + 5 ≤ row.size) (hm : row.size ≤ 1000) (w : World) :
    Calls Sagg.prog 55 #[.string row, .int .u8 3, .int .u8 (n : Int)] w fun e w' => e = .returned (.string (row.extract (5 * n - 10) (5 * n - 10 + 5))) ∧ w' = w := by
  have b1 : (10 : Int) ≤ n := by omega
  have b2 : (5 : Int) * n - 10 + 5 ≤ (row.size : Int) := by omega
  go_enter Sagg.func55, Sagg.ntmps55
  go_wp2
  go_ret
  exact ⟨ret_str (by congr 1 <;> omega), rfl⟩

def pushesRow : ByteArray := ⟨#[80, 85, 83, 72, 48, 80, 85, 83, 72, 49, 80, 85, 83, 72, 50, 80, 85, 83, 72, 51, 80, 85, 83, 72, 52, 80, 85, 83, 72, 53, 80, 85, 83, 72, 54, 80, 85, 83, 72, 55, 80, 85, 83, 72, 56, 80, 85, 83, 72, 57, 80, 85, 83, 72, 49, 48, 80, 85, 83, 72, 49, 49, 80, 85, 83, 72, 49, 50, 80, 85, 83, 72, 49, 51, 80, 85, 83, 72, 49, 52, 80, 85, 83, 72, 49, 53, 80, 85, 83, 72, 49, 54, 80, 85, 83, 72, 49, 55, 80, 85, 83, 72, 49, 56, 80, 85, 83, 72, 49, 57, 80, 85, 83, 72, 50, 48, 80, 85, 83, 72, 50, 49, 80, 85, 83, 72, 50, 50, 80, 85, 83, 72, 50, 51, 80, 85, 83, 72, 50, 52, 80, 85, 83, 72, 50, 53, 80, 85, 83, 72, 50, 54, 80, 85, 83, 72, 50, 55, 80, 85, 83, 72, 50, 56, 80, 85, 83, 72, 50, 57, 80, 85, 83, 72, 51, 48, 80, 85, 83, 72, 51, 49, 80, 85, 83, 72, 51, 50]⟩
theorem pushesRow_size : pushesRow.size = 188 := by kernel_rfl
def dupsRow : ByteArray := ⟨#[68, 85, 80, 48, 68, 85, 80, 49, 68, 85, 80, 50, 68, 85, 80, 51, 68, 85, 80, 52, 68, 85, 80, 53, 68, 85, 80, 54, 68, 85, 80, 55, 68, 85, 80, 56, 68, 85, 80, 57, 68, 85, 80, 49, 48, 68, 85, 80, 49, 49, 68, 85, 80, 49, 50, 68, 85, 80, 49, 51, 68, 85, 80, 49, 52, 68, 85, 80, 49, 53, 68, 85, 80, 49, 54]⟩
theorem dupsRow_size : dupsRow.size = 75 := by kernel_rfl
def swapsRow : ByteArray := ⟨#[83, 87, 65, 80, 48, 83, 87, 65, 80, 49, 83, 87, 65, 80, 50, 83, 87, 65, 80, 51, 83, 87, 65, 80, 52, 83, 87, 65, 80, 53, 83, 87, 65, 80, 54, 83, 87, 65, 80, 55, 83, 87, 65, 80, 56, 83, 87, 65, 80, 57, 83, 87, 65, 80, 49, 48, 83, 87, 65, 80, 49, 49, 83, 87, 65, 80, 49, 50, 83, 87, 65, 80, 49, 51, 83, 87, 65, 80, 49, 52, 83, 87, 65, 80, 49, 53, 83, 87, 65, 80, 49, 54]⟩
theorem swapsRow_size : swapsRow.size = 92 := by kernel_rfl
def logsRow : ByteArray := ⟨#[76, 79, 71, 48, 76, 79, 71, 49, 76, 79, 71, 50, 76, 79, 71, 51, 76, 79, 71, 52]⟩
theorem logsRow_size : logsRow.size = 20 := by kernel_rfl

theorem pushes_few_str : ∀ o, o < 256 → 95 ≤ o → o ≤ 104 → pushesRow.extract (5 * (o - 95)) (5 * (o - 95) + 5) = nameStr o := by decide +kernel
theorem name_pushes_few (o : Nat) (h1 : 95 ≤ o) (h2 : o ≤ 104) (w : World) : Calls Sagg.prog 30 #[.int .u8 (o : Int)] w fun e w' => e = .returned (.string (nameStr o)) ∧ w' = w := by
  have b1 : (95 : Int) ≤ o := by omega
  have b2 : (o : Int) ≤ 104 := by omega
  have hs := pushesRow_size
  have hstr := pushes_few_str o (by omega) h1 h2
  have hc := numbered4_few pushesRow (o - 95) (by omega) (by omega) (by omega) w
  rw [hstr] at hc
  have e1 : ((o - 95 : Nat) : Int) = (o : Int) - 95 := by omega
  rw [e1] at hc
  have HC : Hid (Calls Sagg.prog 55 #[.string pushesRow, .int .u8 4, .int .u8 ((o : Int) - 95)] w fun e w' => e = .returned (.string (nameStr o)) ∧ w' = w) := hc
  clear hc hstr hs e1
  generalize nameStr o = S at *
  go_enter Sagg.func30, Sagg.ntmps30
  go_wp2_with fail
  refine (HC.out).mono ?_
  rintro e w1 ⟨rfl, rfl⟩
  go_wp2
  go_ret
  exact ⟨rfl, rfl⟩

theorem pushes_many_str : ∀ o, o < 256 → 105 ≤ o → o ≤ 127 → pushesRow.extract (6 * (o - 95) - 10) (6 * (o - 95) - 10 + 6) = nameStr o := by decide +kernel
theorem name_pushes_many (o : Nat) (h1 : 105 ≤ o) (h2 : o ≤ 127) (w : World) : Calls Sagg.prog 30 #[.int .u8 (o : Int)] w fun e w' => e = .returned (.string (nameStr o)) ∧ w' = w := by
  have b1 : (105 : Int) ≤ o := by omega
  have b2 : (o : Int) ≤ 127 := by omega
  have hs := pushesRow_size
  have hstr := pushes_many_str o (by omega) h1 h2
  have hc := numbered4_many pushesRow (o - 95) (by omega) (by omega) (by omega) (by omega) w
  rw [hstr] at hc
  have e1 : ((o - 95 : Nat) : Int) = (o : Int) - 95 := by omega
  rw [e1] at hc
  have HC : Hid (Calls Sagg.prog 55 #[.string pushesRow, .int .u8 4, .int .u8 ((o : Int) - 95)] w fun e w' => e = .returned (.string (nameStr o)) ∧ w' = w) := hc
  clear hc hstr hs e1
  generalize nameStr o = S at *
  go_enter Sagg.func30, Sagg.ntmps30
  go_wp2_with fail
  refine (HC.out).mono ?_
  rintro e w1 ⟨rfl, rfl⟩
  go_wp2
  go_ret
  exact ⟨rfl, rfl⟩

theorem dups_few_str : ∀ o, o < 256 → 128 ≤ o → o ≤ 136 → dupsRow.extract (4 * (o - 127)) (4 * (o - 127) + 4) = nameStr o := by decide +kernel
theorem name_dups_few (o : Nat) (h1 : 128 ≤ o) (h2 : o ≤ 136) (w : World) : Calls Sagg.prog 30 #[.int .u8 (o : Int)] w fun e w' => e = .returned (.string (nameStr o)) ∧ w' = w := by
  have b1 : (128 : Int) ≤ o := by omega
  have b2 : (o : Int) ≤ 136 := by omega
  have hs := dupsRow_size
  have hstr := dups_few_str o (by omega) h1 h2
  have hc := numbered3_few dupsRow (o - 127) (by omega) (by omega) (by omega) w
  rw [hstr] at hc
  have e1 : ((o - 127 : Nat) : Int) = (o : Int) - 128 + 1 := by omega
  rw [e1] at hc
  have HC : Hid (Calls Sagg.prog 55 #[.string dupsRow, .int .u8 3, .int .u8 ((o : Int) - 128 + 1)] w fun e w' => e = .returned (.string (nameStr o)) ∧ w' = w) := hc
  clear hc hstr hs e1
  generalize nameStr o = S at *
  go_enter Sagg.func30, Sagg.ntmps30
  go_wp2_with fail
  refine (HC.out).mono ?_
  rintro e w1 ⟨rfl, rfl⟩
  go_wp2
  go_ret
  exact ⟨rfl, rfl⟩

theorem dups_many_str : ∀ o, o < 256 → 137 ≤ o → o ≤ 143 → dupsRow.extract (5 * (o - 127) - 10) (5 * (o - 127) - 10 + 5) = nameStr o := by decide +kernel
theorem name_dups_many (o : Nat) (h1 : 137 ≤ o) (h2 : o ≤ 143) (w : World) : Calls Sagg.prog 30 #[.int .u8 (o : Int)] w fun e w' => e = .returned (.string (nameStr o)) ∧ w' = w := by
  have b1 : (137 : Int) ≤ o := by omega
  have b2 : (o : Int) ≤ 143 := by omega
  have hs := dupsRow_size
  have hstr := dups_many_str o (by omega) h1 h2
  have hc := numbered3_many dupsRow (o - 127) (by omega) (by omega) (by omega) (by omega) w
  rw [hstr] at hc
  have e1 : ((o - 127 : Nat) : Int) = (o : Int) - 128 + 1 := by omega
  rw [e1] at hc
  have HC : Hid (Calls Sagg.prog 55 #[.string dupsRow, .int .u8 3, .int .u8 ((o : Int) - 128 + 1)] w fun e w' => e = .returned (.string (nameStr o)) ∧ w' = w) := hc
  clear hc hstr hs e1
  generalize nameStr o = S at *
  go_enter Sagg.func30, Sagg.ntmps30
  go_wp2_with fail
  refine (HC.out).mono ?_
  rintro e w1 ⟨rfl, rfl⟩
  go_wp2
  go_ret
  exact ⟨rfl, rfl⟩

theorem swaps_few_str : ∀ o, o < 256 → 144 ≤ o → o ≤ 152 → swapsRow.extract (5 * (o - 143)) (5 * (o - 143) + 5) = nameStr o := by decide +kernel
theorem name_swaps_few (o : Nat) (h1 : 144 ≤ o) (h2 : o ≤ 152) (w : World) : Calls Sagg.prog 30 #[.int .u8 (o : Int)] w fun e w' => e = .returned (.string (nameStr o)) ∧ w' = w := by
  have b1 : (144 : Int) ≤ o := by omega
  have b2 : (o : Int) ≤ 152 := by omega
  have hs := swapsRow_size
  have hstr := swaps_few_str o (by omega) h1 h2
  have hc := numbered4_few swapsRow (o - 143) (by omega) (by omega) (by omega) w
  rw [hstr] at hc
  have e1 : ((o - 143 : Nat) : Int) = (o : Int) - 144 + 1 := by omega
  rw [e1] at hc
  have HC : Hid (Calls Sagg.prog 55 #[.string swapsRow, .int .u8 4, .int .u8 ((o : Int) - 144 + 1)] w fun e w' => e = .returned (.string (nameStr o)) ∧ w' = w) := hc
  clear hc hstr hs e1
  generalize nameStr o = S at *
  go_enter Sagg.func30, Sagg.ntmps30
  go_wp2_with fail
  refine (HC.out).mono ?_
  rintro e w1 ⟨rfl, rfl⟩
  go_wp2
  go_ret
  exact ⟨rfl, rfl⟩

theorem swaps_many_str : ∀ o, o < 256 → 153 ≤ o → o ≤ 159 → swapsRow.extract (6 * (o - 143) - 10) (6 * (o - 143) - 10 + 6) = nameStr o := by decide +kernel
theorem name_swaps_many (o : Nat) (h1 : 153 ≤ o) (h2 : o ≤ 159) (w : World) : Calls Sagg.prog 30 #[.int .u8 (o : Int)] w fun e w' => e = .returned (.string (nameStr o)) ∧ w' = w := by
  have b1 : (153 : Int) ≤ o := by omega
  have b2 : (o : Int) ≤ 159 := by omega
  have hs := swapsRow_size
  have hstr := swaps_many_str o (by omega) h1 h2
  have hc := numbered4_many swapsRow (o - 143) (by omega) (by omega) (by omega) (by omega) w
  rw [hstr] at hc
  have e1 : ((o - 143 : Nat) : Int) = (o : Int) - 144 + 1 := by omega
  rw [e1] at hc
  have HC : Hid (Calls Sagg.prog 55 #[.string swapsRow, .int .u8 4, .int .u8 ((o : Int) - 144 + 1)] w fun e w' => e = .returned (.string (nameStr o)) ∧ w' = w) := hc
  clear hc hstr hs e1
  generalize nameStr o = S at *
  go_enter Sagg.func30, Sagg.ntmps30
  go_wp2_with fail
  refine (HC.out).mono ?_
  rintro e w1 ⟨rfl, rfl⟩
  go_wp2
  go_ret
  exact ⟨rfl, rfl⟩

theorem logs_few_str : ∀ o, o < 256 → 160 ≤ o → o ≤ 164 → logsRow.extract (4 * (o - 160)) (4 * (o - 160) + 4) = nameStr o := by decide +kernel
theorem name_logs_few (o : Nat) (h1 : 160 ≤ o) (h2 : o ≤ 164) (w : World) : Calls Sagg.prog 30 #[.int .u8 (o : Int)] w fun e w' => e = .returned (.string (nameStr o)) ∧ w' = w := by
  have b1 : (160 : Int) ≤ o := by omega
  have b2 : (o : Int) ≤ 164 := by omega
  have hs := logsRow_size
  have hstr := logs_few_str o (by omega) h1 h2
  have hc := numbered3_few logsRow (o - 160) (by omega) (by omega) (by omega) w
  rw [hstr] at hc
  have e1 : ((o - 160 : Nat) : Int) = (o : Int) - 160 := by omega
  rw [e1] at hc
  have HC : Hid (Calls Sagg.prog 55 #[.string logsRow, .int .u8 3, .int .u8 ((o : Int) - 160)] w fun e w' => e = .returned (.string (nameStr o)) ∧ w' = w) := hc
  clear hc hstr hs e1
  generalize nameStr o = S at *
  go_enter Sagg.func30, Sagg.ntmps30
  go_wp2_with fail
  refine (HC.out).mono ?_
  rintro e w1 ⟨rfl, rfl⟩
  go_wp2
  go_ret
  exact ⟨rfl, rfl⟩

theorem name_nameArith (o : Nat) (h1 : 0 ≤ o) (h2 : o ≤ 47) (w : World) : Calls Sagg.prog 30 #[.int .u8 (o : Int)] w fun e w' => e = .returned (.string (nameStr o)) ∧ w' = w := by
  have b1 : (0 : Int) ≤ o := by omega
  have b2 : (o : Int) ≤ 47 := by omega
  have hc : Hid (Calls Sagg.prog 56 #[.int .u8 (o : Int)] w fun e w' => e = .returned (.string (nameStr o)) ∧ w' = w) := nameArith_calls o h1 h2 (by omega) w
  generalize nameStr o = S at *
  go_enter Sagg.func30, Sagg.ntmps30
  go_wp2_with fail
  refine hc.out.mono ?_
  rintro e w1 ⟨rfl, rfl⟩
  go_wp2
  go_ret
  exact ⟨rfl, rfl⟩

theorem name_nameSurroundings (o : Nat) (h1 : 48 ≤ o) (h2 : o ≤ 79) (w : World) : Calls Sagg.prog 30 #[.int .u8 (o : Int)] w fun e w' => e = .returned (.string (nameStr o)) ∧ w' = w := by
  have b1 : (48 : Int) ≤ o := by omega
  have b2 : (o : Int) ≤ 79 := by omega
  have hc : Hid (Calls Sagg.prog 57 #[.int .u8 (o : Int)] w fun e w' => e = .returned (.string (nameStr o)) ∧ w' = w) := nameSurroundings_calls o h1 h2 (by omega) w
  generalize nameStr o = S at *
  go_enter Sagg.func30, Sagg.ntmps30
  go_wp2_with fail
  refine hc.out.mono ?_
  rintro e w1 ⟨rfl, rfl⟩
  go_wp2
  go_ret
  exact ⟨rfl, rfl⟩

theorem name_rest0 (o : Nat) (h1 : 80 ≤ o) (h2 : o ≤ 94) (w : World) : Calls Sagg.prog 30 #[.int .u8 (o : Int)] w fun e w' => e = .returned (.string (nameStr o)) ∧ w' = w := by
  have b1 : (80 : Int) ≤ o := by omega
  have b2 : (o : Int) ≤ 94 := by omega
  have hc : Hid (Calls Sagg.prog 58 #[.int .u8 (o : Int)] w fun e w' => e = .returned (.string (nameStr o)) ∧ w' = w) := nameRest_calls o (by omega) (by omega) (by omega) w
  generalize nameStr o = S at *
  go_enter Sagg.func30, Sagg.ntmps30
  go_wp2_with fail
  refine hc.out.mono ?_
  rintro e w1 ⟨rfl, rfl⟩
  go_wp2
  go_ret
  exact ⟨rfl, rfl⟩

theorem name_rest1 (o : Nat) (h1 : 165 ≤ o) (h2 : o ≤ 255) (w : World) : Calls Sagg.prog 30 #[.int .u8 (o : Int)] w fun e w' => e = .returned (.string (nameStr o)) ∧ w' = w := by
  have b1 : (165 : Int) ≤ o := by omega
  have b2 : (o : Int) ≤ 255 := by omega
  have hc : Hid (Calls Sagg.prog 58 #[.int .u8 (o : Int)] w fun e w' => e = .returned (.string (nameStr o)) ∧ w' = w) := nameRest_calls o (by omega) (by omega) (by omega) w
  generalize nameStr o = S at *
  go_enter Sagg.func30, Sagg.ntmps30
  go_wp2_with fail
  refine hc.out.mono ?_
  rintro e w1 ⟨rfl, rfl⟩
  go_wp2
  go_ret
  exact ⟨rfl, rfl⟩

theorem name_calls (o : Nat) (ho : o < 256) (w : World) : Calls Sagg.prog 30 #[.int .u8 (o : Int)] w fun e w' => e = .returned (.string (nameStr o)) ∧ w' = w := by
  have key : (0 ≤ o ∧ o ≤ 47) ∨ (48 ≤ o ∧ o ≤ 79) ∨ (80 ≤ o ∧ o ≤ 94) ∨ (95 ≤ o ∧ o ≤ 104) ∨ (105 ≤ o ∧ o ≤ 127) ∨ (128 ≤ o ∧ o ≤ 136) ∨ (137 ≤ o ∧ o ≤ 143) ∨ (144 ≤ o ∧ o ≤ 152) ∨ (153 ≤ o ∧ o ≤ 159) ∨ (160 ≤ o ∧ o ≤ 164) ∨ (165 ≤ o ∧ o ≤ 255) := by omega
  rcases key with ⟨h1, h2⟩ | ⟨h1, h2⟩ | ⟨h1, h2⟩ | ⟨h1, h2⟩ | ⟨h1, h2⟩ | ⟨h1, h2⟩ | ⟨h1, h2⟩ | ⟨h1, h2⟩ | ⟨h1, h2⟩ | ⟨h1, h2⟩ | ⟨h1, h2⟩
  · exact name_nameArith o h1 h2 w
  · exact name_nameSurroundings o h1 h2 w
  · exact name_rest0 o h1 h2 w
  · exact name_pushes_few o h1 h2 w
  · exact name_pushes_many o h1 h2 w
  · exact name_dups_few o h1 h2 w
  · exact name_dups_many o h1 h2 w
  · exact name_swaps_few o h1 h2 w
  · exact name_swaps_many o h1 h2 w
  · exact name_logs_few o h1 h2 w
  · exact name_rest1 o h1 h2 w

theorem opNames_calls (o : Nat) (ho : o < 256) (w : World) : Calls Sagg.prog 7 #[.int .u8 (o : Int)] w fun e w' => e = .returned (.bool true) ∧ Below w.heap.size w w' := by
  go_enter Sagg.func7, Sagg.ntmps7
  go_wp2_with fail
  refine (name_calls o ho _).mono ?_
  rintro e w1 ⟨rfl, rfl⟩
  go_wp2_with fail
  refine (imm_calls o ho _).mono ?_
  rintro e w1 ⟨rfl, rfl⟩
  go_wp2_with fail
  refine (fam_calls o ho _).mono ?_
  rintro e w1 ⟨rfl, rfl⟩
  go_wp2_with fail
  simp only [← List.getD_eq_getElem?_getD]
  refine (opRowIs_calls o ho _).mono ?_
  rintro e w1 ⟨rfl, hb⟩
  go_wp2
  go_ret
  exact ⟨rfl, hb⟩
end Go.Proofs.Ygcsag
