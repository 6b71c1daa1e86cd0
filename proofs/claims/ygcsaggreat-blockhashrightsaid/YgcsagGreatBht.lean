/-
  What BLOCKHASH gives is what is wanted.
-/
import Derived.Test.YgcsagGreatBhs
namespace Go.Proofs.EX
open Go.RowKit Go.Proofs.YgcsagGreat
set_option linter.unusedVariables false
set_option linter.unusedSimpArgs false
theorem hfl_length (h : Nat → Nat → Int) : ∀ n, (hfl h n).length = 32 * n
  | 0 => rfl
  | n + 1 => by
    unfold hfl
    rw [List.range_succ, List.flatMap_append, List.length_append]
    have := hfl_length h n
    unfold hfl at this
    rw [this]
    simp [l32]
    omega
theorem hfl_succ (h : Nat → Nat → Int) (n : Nat) : hfl h (n + 1) = hfl h n ++ l32 (h n) := by
  unfold hfl
  rw [List.range_succ, List.flatMap_append]
  simp
theorem l32_get (f : Nat → Int) {j : Nat} (hj : j < 32) : (l32 f).getD j 0 = f j := by
  unfold l32
  rw [List.getD_eq_getElem?_getD, List.getElem?_map, List.getElem?_range hj]
  rfl
theorem hfl_get (h : Nat → Nat → Int) : ∀ {n i j : Nat}, i < n → j < 32 → (hfl h n).getD (32 * i + j) 0 = h i j
  | 0, i, j, hi, hj => by omega
  | n + 1, i, j, hi, hj => by
    have hl := hfl_length h n
    rw [hfl_succ]
    by_cases e : i < n
    · have := hfl_get h (n := n) e hj
      rw [List.getD_eq_getElem?_getD] at this ⊢
      rw [List.getElem?_append_left (by omega)]
      exact this
    · have e : i = n := by omega
      subst e
      rw [List.getD_eq_getElem?_getD, List.getElem?_append_right (by omega), hl, show 32 * i + j - 32 * i = j by omega, ← List.getD_eq_getElem?_getD]
      exact l32_get _ hj
theorem dig_zero (j : Nat) : dig 0 j = 0 := by unfold dig; simp
theorem dl32_zero : dl32 0 = l32 fun _ => 0 := by
  unfold dl32 l32
  apply List.map_congr_left
  intro j hj
  exact dig_zero _
theorem dl32_beV {f : Nat → Int} (h : AllIn (l32 f)) : dl32 (beV (l32 f)) = l32 f := by
  have hd : Dig (l32 f).reverse := fun n hn => allIn_ok h n (List.mem_reverse.1 hn)
  rw [beV_eq]
  unfold valB dl32
  conv => rhs; unfold l32
  apply List.map_congr_left
  intro j hj
  rw [List.mem_range] at hj
  rw [val_dig hd, List.getD_eq_getElem?_getD, List.getElem?_reverse (by simp [l32]; omega)]
  have : (l32 f).length - 1 - (31 - j) = j := by simp [l32]; omega
  rw [this, ← List.getD_eq_getElem?_getD]
  exact l32_get f hj
theorem allIn_dl (x : Int) : AllIn (dl32 x) := by
  refine allIn_of fun y hy => ?_
  obtain ⟨j, hj, rfl⟩ := List.mem_map.1 hy
  unfold dig
  omega
theorem rowF_get (h : Nat → Nat → Int) {n i j : Nat} (hi : i < n) (hj : j < 32) : rowF ((List.range n).map fun i => l32 (h i)) i j = h i j := by
  unfold rowF
  rw [List.getD_eq_getElem?_getD (l := List.map _ _), List.getElem?_map, List.getElem?_range hi]
  exact l32_get _ hj
variable {num : Int} {a : Nat → Int} {h : Nat → Nat → Int} {n : Nat}
theorem hvN_eq : hvN num a h n = if num < beV (l32 a) + 1 then 0 else if num - (beV (l32 a) + 1) < n then beV (l32 (h (num - (beV (l32 a) + 1)).toNat)) else 0 := by
  unfold hvN hvL hv
  split
  · rfl
  · split
    · rename_i h1 h2
      have hk : (num - (beV (l32 a) + 1)).toNat < n := by omega
      generalize (num - (beV (l32 a) + 1)).toNat = k at hk ⊢
      congr 1
      unfold l32
      apply List.map_congr_left
      intro j hj
      rw [List.mem_range] at hj
      exact hfl_get h hk hj
    · rfl
theorem two256_big : two256 ≤ big := by
  have e : two256 = 256 ^ 32 := by kernel_rfl
  rw [e, big_eq]
  exact pow256_mono (by omega)
theorem beV_range {f : Nat → Int} (hf : AllIn (l32 f)) : 0 ≤ beV (l32 f) ∧ beV (l32 f) < two256 := by
  have e : two256 = 256 ^ 32 := by kernel_rfl
  have hd : Dig (l32 f).reverse := fun n hn => allIn_ok hf n (List.mem_reverse.1 hn)
  rw [beV_eq, e]
  unfold valB
  have h1 := val_lt hd
  rw [List.length_reverse] at h1
  simp only [l32, List.length_map, List.length_range] at h1
  exact ⟨val_nonneg hd, h1⟩
theorem hvN_range (hh : ∀ i, i < n → AllIn (l32 (h i))) : 0 ≤ hvN num a h n ∧ hvN num a h n < two256 := by
  have h0 : (0 : Int) ≤ 0 ∧ (0 : Int) < two256 := ⟨Int.le_refl _, Int.pow_pos (by omega)⟩
  rw [hvN_eq]
  split
  · exact h0
  · split
    · exact beV_range (hh _ (by omega))
    · exact h0
theorem hvN_want (hh : ∀ i, i < n → AllIn (l32 (h i))) {rows : List (List Int)} (hr : rows = (List.range n).map fun i => l32 (h i)) : dl32 (hvN num a h n) = (List.range 32).map (want num (beV (l32 a)) (rowF rows) n) := by
  subst hr
  rw [hvN_eq]
  split
  · rename_i h1
    rw [dl32_zero]
    apply List.map_congr_left
    intro j hj
    unfold want
    rw [if_pos h1]
  · rename_i h1
    split
    · rename_i h2
      rw [dl32_beV (hh _ (by omega))]
      apply List.map_congr_left
      intro j hj
      rw [List.mem_range] at hj
      unfold want
      rw [if_neg h1, if_pos h2, rowF_get h (by omega) hj]
    · rename_i h2
      rw [dl32_zero]
      apply List.map_congr_left
      intro j hj
      unfold want
      rw [if_neg h1, if_neg h2]
theorem allIn_hfl (hh : ∀ i, i < n → AllIn (l32 (h i))) : AllIn (hfl h n) := by
  refine allIn_of fun y hy => ?_
  unfold hfl at hy
  obtain ⟨i, hi, hy⟩ := List.mem_flatMap.1 hy
  rw [List.mem_range] at hi
  exact allIn_ok (hh i hi) y hy
theorem beV_one {f : Nat → Int} (hf : AllIn (l32 f)) : beV (l32 f) + 1 < big := small_big (aB_lt hf) (by omega)
end Go.Proofs.EX
