/-
  'kmodel': hashes, reckoned by the kernel.
-/
import Derived.Test.YgcsagGreatRn
namespace Go.Proofs.YgcsagGreat
open Go.RowKit
set_option linter.unusedVariables false
set_option linter.unusedSimpArgs false
set_option maxRecDepth 100000
def abT (B x s : Nat) : Nat := match Nat.beq (Nat.mod x 1088) 1087 with
  | true => fT (ab1KN B x s)
  | false => ab1KN B x s
theorem ab_eq : abKN = abT := by
  funext B x s
  unfold abKN abT
  rw [f_eqT]
  rfl
def sumT (bs : List Nat) (n : Nat) : Nat := iterKN (obKN (iterKN (abT (b3KN bs n)) 0 (8 * n + 1 + padKN n + 1))) 0 256
theorem sum_eq (bs : List Nat) (n : Nat) : sumKN bs n = sumT bs n := by
  unfold sumKN absKN sumT
  rw [ab_eq]
theorem sum_a : sumKN [214, 148, 0, 0, 0, 0, 0, 0, 0, 0, 0, 0, 0, 0, 0, 0, 0, 0, 0, 0, 0, 240, 128] 23 = 31599315447761283560510170295466839632714850439158201642269770242110975416018 := (sum_eq _ _).trans (by kernel_rfl)
theorem sum_b : sumKN [214, 148, 0, 0, 0, 0, 0, 0, 0, 0, 0, 0, 0, 0, 0, 0, 0, 0, 0, 0, 0, 1, 1] 23 = 101948480277028031809148854080849929829497246486948348470499002216082343192188 := (sum_eq _ _).trans (by kernel_rfl)
theorem sum_c : sumKN [214, 148, 0, 0, 0, 0, 0, 0, 0, 0, 0, 0, 0, 0, 0, 0, 0, 0, 0, 0, 0, 2, 1] 23 = 19206969978984219798662111353721941996491953241064316288451936714527661227266 := (sum_eq _ _).trans (by kernel_rfl)
theorem sum_d : sumKN [96, 153, 255] 3 = 72414532032875786426016783788801907858896177307215876602691880922030136972042 := (sum_eq _ _).trans (by kernel_rfl)
theorem sum_f : sumKN [214, 148, 0, 0, 0, 0, 0, 0, 0, 0, 0, 0, 0, 0, 0, 0, 0, 0, 0, 0, 0, 1, 2] 23 = 92492142399322142241434869554827060977866625294083472315670035261957977297702 := (sum_eq _ _).trans (by kernel_rfl)
theorem sum_e : sumKN [255, 0, 0, 0, 0, 0, 0, 0, 0, 0, 0, 0, 0, 0, 0, 0, 0, 0, 0, 0, 1, 0, 0, 0, 0, 0, 0, 0, 0, 0, 0, 0, 0, 0, 0, 0, 0, 0, 0, 0, 0, 0, 0, 0, 0, 0, 0, 0, 0, 0, 0, 0, 0, 10, 83, 77, 36, 68, 179, 1, 85, 185, 220, 202, 218, 175, 223, 252, 168, 164, 129, 236, 178, 114, 4, 32, 20, 228, 65, 170, 39, 52, 44, 25, 160] 85 = 36964141114117714698861641034076270725029883412072510389459238735599446317230 := (sum_eq _ _).trans (by kernel_rfl)
end Go.Proofs.YgcsagGreat
