/-
  'kmodel': the round constants, and the permutation as the kernel reckons it.
-/
import Derived.Test.YgcsagGreatRk
namespace Go.Proofs.YgcsagGreat
open Go.RowKit
set_option linter.unusedVariables false
set_option linter.unusedSimpArgs false
set_option maxRecDepth 100000
theorem reg_0 : regKN 0 = 1 := rfl
theorem iter_tur (c m : Nat) : ∀ n, iterKN turKN c (m + n) = iterKN turKN (iterKN turKN c m) n
  | 0 => rfl
  | n + 1 => by
    show t4KN (iterKN turKN c (m + n)) = t4KN (iterKN turKN (iterKN turKN c m) n)
    rw [iter_tur c m n]
theorem reg_next {i r s : Nat} (h : regKN i = r) (hs : iterKN turKN r 7 = s) : regKN (i + 1) = s := by
  unfold regKN at *
  rw [Nat.mul_add, Nat.mul_one, iter_tur, h, hs]
theorem reg_1 : regKN 1 = 128 := reg_next reg_0 (by kernel_rfl)
theorem reg_2 : regKN 2 = 216 := reg_next reg_1 (by kernel_rfl)
theorem reg_3 : regKN 3 = 26 := reg_next reg_2 (by kernel_rfl)
theorem reg_4 : regKN 4 = 223 := reg_next reg_3 (by kernel_rfl)
theorem reg_5 : regKN 5 = 9 := reg_next reg_4 (by kernel_rfl)
theorem reg_6 : regKN 6 = 53 := reg_next reg_5 (by kernel_rfl)
theorem reg_7 : regKN 7 = 79 := reg_next reg_6 (by kernel_rfl)
theorem reg_8 : regKN 8 = 202 := reg_next reg_7 (by kernel_rfl)
theorem reg_9 : regKN 9 = 112 := reg_next reg_8 (by kernel_rfl)
theorem reg_10 : regKN 10 = 65 := reg_next reg_9 (by kernel_rfl)
theorem reg_11 : regKN 11 = 236 := reg_next reg_10 (by kernel_rfl)
theorem reg_12 : regKN 12 = 213 := reg_next reg_11 (by kernel_rfl)
theorem reg_13 : regKN 13 = 205 := reg_next reg_12 (by kernel_rfl)
theorem reg_14 : regKN 14 = 99 := reg_next reg_13 (by kernel_rfl)
theorem reg_15 : regKN 15 = 171 := reg_next reg_14 (by kernel_rfl)
theorem reg_16 : regKN 16 = 170 := reg_next reg_15 (by kernel_rfl)
theorem reg_17 : regKN 17 = 42 := reg_next reg_16 (by kernel_rfl)
theorem reg_18 : regKN 18 = 242 := reg_next reg_17 (by kernel_rfl)
theorem reg_19 : regKN 19 = 232 := reg_next reg_18 (by kernel_rfl)
theorem reg_20 : regKN 20 = 55 := reg_next reg_19 (by kernel_rfl)
theorem reg_21 : regKN 21 = 62 := reg_next reg_20 (by kernel_rfl)
theorem reg_22 : regKN 22 = 11 := reg_next reg_21 (by kernel_rfl)
theorem reg_23 : regKN 23 = 68 := reg_next reg_22 (by kernel_rfl)
theorem const_of {i r c : Nat} (h : regKN i = r) (hc : iterKN (ccfKN r) 0 7 = c) : constKN i = c := by
  unfold constKN
  rw [h, hc]
theorem const_0 : constKN 0 = 1 := const_of reg_0 (by kernel_rfl)
theorem const_1 : constKN 1 = 32898 := const_of reg_1 (by kernel_rfl)
theorem const_2 : constKN 2 = 9223372036854808714 := const_of reg_2 (by kernel_rfl)
theorem const_3 : constKN 3 = 9223372039002292224 := const_of reg_3 (by kernel_rfl)
theorem const_4 : constKN 4 = 32907 := const_of reg_4 (by kernel_rfl)
theorem const_5 : constKN 5 = 2147483649 := const_of reg_5 (by kernel_rfl)
theorem const_6 : constKN 6 = 9223372039002292353 := const_of reg_6 (by kernel_rfl)
theorem const_7 : constKN 7 = 9223372036854808585 := const_of reg_7 (by kernel_rfl)
theorem const_8 : constKN 8 = 138 := const_of reg_8 (by kernel_rfl)
theorem const_9 : constKN 9 = 136 := const_of reg_9 (by kernel_rfl)
theorem const_10 : constKN 10 = 2147516425 := const_of reg_10 (by kernel_rfl)
theorem const_11 : constKN 11 = 2147483658 := const_of reg_11 (by kernel_rfl)
theorem const_12 : constKN 12 = 2147516555 := const_of reg_12 (by kernel_rfl)
theorem const_13 : constKN 13 = 9223372036854775947 := const_of reg_13 (by kernel_rfl)
theorem const_14 : constKN 14 = 9223372036854808713 := const_of reg_14 (by kernel_rfl)
theorem const_15 : constKN 15 = 9223372036854808579 := const_of reg_15 (by kernel_rfl)
theorem const_16 : constKN 16 = 9223372036854808578 := const_of reg_16 (by kernel_rfl)
theorem const_17 : constKN 17 = 9223372036854775936 := const_of reg_17 (by kernel_rfl)
theorem const_18 : constKN 18 = 32778 := const_of reg_18 (by kernel_rfl)
theorem const_19 : constKN 19 = 9223372039002259466 := const_of reg_19 (by kernel_rfl)
theorem const_20 : constKN 20 = 9223372039002292353 := const_of reg_20 (by kernel_rfl)
theorem const_21 : constKN 21 = 9223372036854808704 := const_of reg_21 (by kernel_rfl)
theorem const_22 : constKN 22 = 2147483649 := const_of reg_22 (by kernel_rfl)
theorem const_23 : constKN 23 = 9223372039002292232 := const_of reg_23 (by kernel_rfl)
def constT (i : Nat) : Nat := ([1, 32898, 9223372036854808714, 9223372039002292224, 32907, 2147483649, 9223372039002292353, 9223372036854808585, 138, 136, 2147516425, 2147483658, 2147516555, 9223372036854775947, 9223372036854808713, 9223372036854808579, 9223372036854808578, 9223372036854775936, 32778, 9223372039002259466, 9223372039002292353, 9223372036854808704, 2147483649, 9223372039002292232] : List Nat).getD i 0
theorem const_eq : ∀ i, i < 24 → constKN i = constT i
  | 0, _ => const_0
  | 1, _ => const_1
  | 2, _ => const_2
  | 3, _ => const_3
  | 4, _ => const_4
  | 5, _ => const_5
  | 6, _ => const_6
  | 7, _ => const_7
  | 8, _ => const_8
  | 9, _ => const_9
  | 10, _ => const_10
  | 11, _ => const_11
  | 12, _ => const_12
  | 13, _ => const_13
  | 14, _ => const_14
  | 15, _ => const_15
  | 16, _ => const_16
  | 17, _ => const_17
  | 18, _ => const_18
  | 19, _ => const_19
  | 20, _ => const_20
  | 21, _ => const_21
  | 22, _ => const_22
  | 23, _ => const_23
  | i + 24, h => by omega
theorem iter_congr {f g : Nat → Nat → Nat} {c : Nat} : ∀ n, (∀ i c, i < n → f i c = g i c) → iterKN f c n = iterKN g c n
  | 0, _ => rfl
  | n + 1, h => by rw [iter_succ, iter_succ, iter_congr n (fun i c hi => h i c (by omega)), h n _ (by omega)]
def roundT (i a : Nat) : Nat := Nat.xor (chiE (piE (rhoE (thetaE a)))) (constT i)
/-- The permutation. -/
def fT (N : Nat) : Nat := iterKN (outE (iterKN roundT (iterKN (inE N) 0 25) 24)) N 25
theorem f_eqT (N : Nat) : fKN N = fT N := by
  rw [f_eq]
  unfold fE fT
  rw [iter_congr (f := roundE) (g := roundT) 24 (fun i c hi => by unfold roundE roundT; rw [const_eq i hi])]
end Go.Proofs.YgcsagGreat
