/-
  PLAIN MATHEMATICS of long division, bit by bit.
-/
import Derived.Test.YgcsagGreatNum
import Derived.Laws.BitsLemmas
namespace Go.Proofs.YgcsagGreat
set_option linter.unusedSimpArgs false
set_option linter.unusedVariables false

theorem pow2_pos (k : Nat) : (0 : Int) < 2 ^ k := Int.pow_pos (by omega)

theorem pow256_two (j : Nat) : (256 : Int) ^ j = 2 ^ (8 * j) := by
  have h : (256 : Int) = 2 ^ 8 := by decide
  rw [h, ← Int.pow_mul]

theorem val_drop_div {zs : List Int} (h : Dig zs) (j : Nat) : val (zs.drop j) = val zs / 256 ^ j := by
  rcases Nat.lt_or_ge j zs.length with hj | hj
  · have h1 := val_split zs j (by omega)
    have h2 := val_lt (h.take j)
    have h3 := val_nonneg (h.take j)
    rw [List.length_take, Nat.min_eq_left (by omega)] at h2
    rw [h1, Int.add_mul_ediv_left _ _ (by have := pow256_pos j; omega), Int.ediv_eq_zero_of_lt h3 h2, Int.zero_add]
  · rw [List.drop_eq_nil_iff.2 hj]
    have h2 := val_lt h
    have h3 := val_nonneg h
    have h4 : (256 : Int) ^ zs.length ≤ 256 ^ j := pow256_le hj
    rw [Int.ediv_eq_zero_of_lt h3 (by omega)]; rfl

/-- A digit, read off the number. -/
theorem digit_eq {zs : List Int} (h : Dig zs) (j : Nat) : zs.getD j 0 = val zs / 256 ^ j % 256 := by
  rw [← val_drop_div h j]
  rcases Nat.lt_or_ge j zs.length with hj | hj
  · rw [drop_getD_cons zs j hj]
    have := h.getD j
    simp only [val]
    omega
  · rw [List.drop_eq_nil_iff.2 hj, getD_ge _ _ hj]; rfl

theorem ediv_pow_add (A : Int) (a b : Nat) : A / 2 ^ a / 2 ^ b = A / 2 ^ (a + b) := by
  rw [Int.pow_add, ← Int.ediv_ediv_of_nonneg (Int.le_of_lt (pow2_pos a))]

theorem mod256_bit (x : Int) (r : Nat) (hr : r < 8) : x % 256 / 2 ^ r % 2 = x / 2 ^ r % 2 := by
  match r, hr with
  | 0, _ => simp
  | 1, _ => simp; omega
  | 2, _ => simp; omega
  | 3, _ => simp; omega
  | 4, _ => simp; omega
  | 5, _ => simp; omega
  | 6, _ => simp; omega
  | 7, _ => simp; omega

/-- Bit m of a number, read off its digit. -/
theorem bit_eq {zs : List Int} (h : Dig zs) (m : Nat) : zs.getD (m / 8) 0 / 2 ^ (m % 8) % 2 = val zs / 2 ^ m % 2 := by
  rw [digit_eq h, mod256_bit _ _ (Nat.mod_lt _ (by omega)), pow256_two, ediv_pow_add]
  have : 8 * (m / 8) + m % 8 = m := by omega
  rw [this]

/-- A number that is a multiple of 2^(m+1) has zeros below in digit m/8. -/
theorem digit_low {zs : List Int} (h : Dig zs) (m : Nat) (K : Int) (hv : val zs = K * 2 ^ (m + 1)) : zs.getD (m / 8) 0 % 2 ^ (m % 8 + 1) = 0 := by
  have hm : m + 1 = 8 * (m / 8) + (m % 8 + 1) := by omega
  have hr : m % 8 < 8 := Nat.mod_lt _ (by omega)
  rw [digit_eq h, pow256_two, hv, hm, Int.pow_add, ← Int.mul_assoc, Int.mul_comm K, Int.mul_assoc, Int.mul_ediv_cancel_left _ (by have := pow2_pos (8 * (m / 8)); omega)]
  generalize m % 8 = r at hr
  match r, hr with
  | 0, _ => simp
  | 1, _ => simp
  | 2, _ => simp
  | 3, _ => simp
  | 4, _ => simp
  | 5, _ => simp
  | 6, _ => simp
  | 7, _ => simp

theorem low_room (q : Int) (r : Nat) (hr : r < 8) (hq : 0 ≤ q ∧ q < 256) (h : q % 2 ^ (r + 1) = 0) : q + 2 ^ r < 256 := by
  match r, hr with
  | 0, _ => simp at *; omega
  | 1, _ => simp at *; omega
  | 2, _ => simp at *; omega
  | 3, _ => simp at *; omega
  | 4, _ => simp at *; omega
  | 5, _ => simp at *; omega
  | 6, _ => simp at *; omega
  | 7, _ => simp at *; omega

theorem pow_lt8 (r : Nat) (hr : r < 8) : (2 : Int) ^ r < 256 ∧ 0 < (2 : Int) ^ r := by
  match r, hr with
  | 0, _ => decide
  | 1, _ => decide
  | 2, _ => decide
  | 3, _ => decide
  | 4, _ => decide
  | 5, _ => decide
  | 6, _ => decide
  | 7, _ => decide

theorem or_bit_u8 (q : Int) (r : Nat) (hr : r < 8) (hq : 0 ≤ q ∧ q < 256) (h : q % 2 ^ (r + 1) = 0) : bits .or .u8 q (2 ^ r) = q + 2 ^ r := by
  have hp := pow_lt8 r hr
  refine bits_join .u8 8 (by decide) wraps_u8 (r + 1) q (2 ^ r) hq.1 h hq.2 (by omega) ?_ hp.1
  rw [Int.pow_succ]; omega

theorem val_set {zs : List Int} (j : Nat) (hj : j < zs.length) (x : Int) : val (zs.set j x) = val zs + 256 ^ j * (x - zs.getD j 0) := by
  have h1 := val_split (zs.set j x) (j + 1) (by simp; omega)
  have h2 := val_split zs (j + 1) (by omega)
  rw [val_take_succ, getD_set_self _ _ _ hj, take_set_ge _ _ _ _ (Nat.le_refl _), List.drop_set_of_lt (by omega)] at h1
  rw [val_take_succ] at h2
  rw [h1, h2, Int.mul_sub]
  omega

/-- The quotient's digit takes one more bit. -/
theorem val_set_bit {zs : List Int} (m : Nat) (hj : m / 8 < zs.length) : val (zs.set (m / 8) (zs.getD (m / 8) 0 + 2 ^ (m % 8))) = val zs + 2 ^ m := by
  rw [val_set _ hj, pow256_two]
  have e : zs.getD (m / 8) 0 + 2 ^ (m % 8) - zs.getD (m / 8) 0 = 2 ^ (m % 8) := by omega
  rw [e, ← Int.pow_add]
  have : 8 * (m / 8) + m % 8 = m := by omega
  rw [this]

theorem div_two_pow_succ (A : Int) (m : Nat) : A / 2 ^ m = 2 * (A / 2 ^ (m + 1)) + A / 2 ^ m % 2 := by
  have := ediv_pow_add A m 1
  simp at this
  rw [← this]
  omega

/-- What DivMod's loop holds with n bits to go. -/
def DivInv (A B : Int) (n : Nat) (quo rem : List Int) : Prop := val rem = A / 2 ^ n % B ∧ val quo = A / 2 ^ n / B * 2 ^ n

theorem DivInv.no {A B : Int} {m : Nat} {quo rem rem' : List Int} (h : DivInv A B (m + 1) quo rem) (hB : 0 < B) (h1 : val rem' = 2 * val rem + A / 2 ^ m % 2) (h2 : val rem' < B) (h3 : 0 ≤ val rem') :
    DivInv A B m quo rem' := by
  obtain ⟨hr, hq⟩ := h
  have hd := div_two_pow_succ A m
  generalize hD : A / 2 ^ (m + 1) = D at *
  generalize ht : A / 2 ^ m % 2 = t at *
  have e1 : A / 2 ^ m = val rem' + B * (2 * (D / B)) := by
    rw [hd, h1, hr]
    have := Int.mul_ediv_add_emod D B
    rw [← Int.mul_assoc, Int.mul_comm B 2, Int.mul_assoc]
    omega
  refine ⟨?_, ?_⟩
  · rw [e1, Int.add_mul_emod_self_left, Int.emod_eq_of_lt h3 h2]
  · rw [e1, Int.add_mul_ediv_left _ _ (by omega), Int.ediv_eq_zero_of_lt h3 h2, hq, Int.zero_add, Int.pow_succ, Int.mul_comm 2, Int.mul_assoc, Int.mul_comm (2 ^ m) 2]

theorem DivInv.yes {A B : Int} {m : Nat} {quo rem quo' rem' : List Int} (h : DivInv A B (m + 1) quo rem) (hB : 0 < B) (h1 : val rem' = 2 * val rem + A / 2 ^ m % 2 - B) (h2 : val rem' < B) (h3 : 0 ≤ val rem') (h4 : val quo' = val quo + 2 ^ m) :
    DivInv A B m quo' rem' := by
  obtain ⟨hr, hq⟩ := h
  have hd := div_two_pow_succ A m
  generalize hD : A / 2 ^ (m + 1) = D at *
  generalize ht : A / 2 ^ m % 2 = t at *
  have e1 : A / 2 ^ m = val rem' + B * (2 * (D / B) + 1) := by
    rw [hd, h1, hr]
    have := Int.mul_ediv_add_emod D B
    rw [Int.mul_add, ← Int.mul_assoc, Int.mul_comm B 2, Int.mul_assoc]
    omega
  refine ⟨?_, ?_⟩
  · rw [e1, Int.add_mul_emod_self_left, Int.emod_eq_of_lt h3 h2]
  · rw [e1, Int.add_mul_ediv_left _ _ (by omega), Int.ediv_eq_zero_of_lt h3 h2, h4, hq, Int.zero_add, Int.pow_succ, Int.add_mul, Int.mul_comm 2, Int.mul_assoc, Int.mul_comm (2 ^ m) 2]
    omega

theorem DivInv.start {A B : Int} (hA : 0 ≤ A) (n : Nat) (h : A < 2 ^ n) (hB : 0 < B) (quo rem : List Int) (h1 : val quo = 0) (h2 : val rem = 0) : DivInv A B n quo rem := by
  unfold DivInv
  rw [Int.ediv_eq_zero_of_lt hA h, h1, h2]
  simp

theorem DivInv.done {A B : Int} {quo rem : List Int} (h : DivInv A B 0 quo rem) : val rem = A % B ∧ val quo = A / B := by
  obtain ⟨h1, h2⟩ := h
  simp at h1 h2
  exact ⟨h1, h2⟩

/-- What the doubling loop holds behind k digits. -/
def DblInv (rem cur : List Int) (t : Int) (k : Nat) (c : Int) : Prop :=
  cur.length = rem.length ∧ Dig cur ∧ 0 ≤ c ∧ c ≤ 1 ∧ cur.drop k = rem.drop k ∧ val (cur.take k) + 256 ^ k * c = 2 * val (rem.take k) + t

theorem DblInv.start (rem : List Int) (t : Int) (hd : Dig rem) (ht : 0 ≤ t ∧ t ≤ 1) : DblInv rem rem t 0 t := ⟨rfl, hd, ht.1, ht.2, rfl, by simp [val]⟩

theorem dbl_step (p x c' c d V V1 t : Int) (hx : 2 * d + c = x + 256 * c') (h : V + p * c = 2 * V1 + t) : V + p * x + p * 256 * c' = 2 * (V1 + p * d) + t := by
  have : x = 2 * d + c - 256 * c' := by omega
  subst this
  have e : p * (2 * d) = 2 * (p * d) := by rw [← Int.mul_assoc, Int.mul_comm p 2, Int.mul_assoc]
  rw [Int.mul_sub, Int.mul_add, ← Int.mul_assoc p 256, e]
  omega

theorem DblInv.step {rem cur : List Int} {t : Int} {k : Nat} {c : Int} (h : DblInv rem cur t k c) (hk : k < rem.length) {x c' : Int} (hx : 0 ≤ x ∧ x < 256) (hc : 0 ≤ c' ∧ c' ≤ 1)
    (he : 2 * cur.getD k 0 + c = x + 256 * c') : DblInv rem (cur.set k x) t (k + 1) c' := by
  obtain ⟨h1, h2, h3, h4, h5, h6⟩ := h
  refine ⟨by simpa using h1, h2.set k hx, hc.1, hc.2, ?_, ?_⟩
  · rw [List.drop_set_of_lt (by omega), ← List.drop_drop, ← List.drop_drop, h5]
  · rw [val_take_succ, val_take_succ, getD_set_self _ _ _ (by omega), take_set_ge _ _ _ _ (Nat.le_refl _), Int.pow_succ]
    refine dbl_step _ _ _ _ _ _ _ _ ?_ h6
    have e : cur.getD k 0 = rem.getD k 0 := by
      have := congrArg (fun l : List Int => l.getD 0 0) h5
      simpa [List.getD_eq_getElem?_getD, List.getElem?_drop] using this
    rw [← e]; exact he

theorem DblInv.done {rem cur : List Int} {t c : Int} (h : DblInv rem cur t rem.length c) (hs : 2 * val rem + t < 256 ^ rem.length) : cur.length = rem.length ∧ Dig cur ∧ val cur = 2 * val rem + t := by
  obtain ⟨h1, h2, h3, h4, h5, h6⟩ := h
  rw [List.take_of_length_le (by omega), List.take_of_length_le (Nat.le_refl _)] at h6
  have h7 := val_nonneg h2
  have hc : c = 0 := by
    rcases Int.lt_or_le 0 c with hc | hc
    · have : c = 1 := by omega
      subst this
      omega
    · omega
  subst hc
  exact ⟨h1, h2, by omega⟩

theorem shl1_or (d c : Int) (hd : 0 ≤ d ∧ d < 256) (hc : 0 ≤ c ∧ c ≤ 1) : bits .or .u8 (d * 2 % 256) c = d * 2 % 256 + c :=
  bits_join .u8 8 (by decide) wraps_u8 1 _ c (by omega) (by omega) (by omega) hc.1 (by omega) (by omega)

end Go.Proofs.YgcsagGreat
