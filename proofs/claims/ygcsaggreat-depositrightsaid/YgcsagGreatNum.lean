/-
  PLAIN MATHEMATICS: numbers as lists of digits to the base 256, the least first. No program, no walk.
-/
import Derived.Below
namespace Go.Proofs.YgcsagGreat
set_option linter.unusedSimpArgs false

/-- The number that a list of digits makes. -/
def val : List Int → Int
  | [] => 0
  | x :: r => x + 256 * val r

/-- Each is a digit. -/
def Dig (zs : List Int) : Prop := ∀ n ∈ zs, 0 ≤ n ∧ n < 256

/-- No zero at the top. -/
def Norm (zs : List Int) : Prop := zs.getLast? ≠ some 0

/-- How many digits are left when the zeros at the top are cut. -/
def topLen (zs : List Int) : Nat → Nat
  | 0 => 0
  | k + 1 => if zs.getD k 0 = 0 then topLen zs k else k + 1

/-- The list without the zeros at its top. -/
def trimL (zs : List Int) : List Int := zs.take (topLen zs zs.length)

theorem Dig.nil : Dig [] := by intro n h; cases h
theorem Dig.cons {x : Int} {r : List Int} (hx : 0 ≤ x ∧ x < 256) (h : Dig r) : Dig (x :: r) := by
  intro n hn
  rcases List.mem_cons.1 hn with rfl | hn
  · exact hx
  · exact h n hn
theorem Dig.head {x : Int} {r : List Int} (h : Dig (x :: r)) : 0 ≤ x ∧ x < 256 := h x (by simp)
theorem Dig.tail {x : Int} {r : List Int} (h : Dig (x :: r)) : Dig r := fun n hn => h n (by simp [hn])
theorem Dig.take {zs : List Int} (h : Dig zs) (k : Nat) : Dig (zs.take k) := fun n hn => h n (List.mem_of_mem_take hn)
theorem Dig.drop {zs : List Int} (h : Dig zs) (k : Nat) : Dig (zs.drop k) := fun n hn => h n (List.mem_of_mem_drop hn)
theorem Dig.append {a b : List Int} (h : Dig a) (k : Dig b) : Dig (a ++ b) := fun n hn => (List.mem_append.1 hn).elim (h n) (k n)
theorem Dig.zeros (k : Nat) : Dig (List.replicate k 0) := fun n hn => by rw [(List.mem_replicate.1 hn).2]; omega
theorem Dig.set {zs : List Int} (h : Dig zs) (k : Nat) {x : Int} (hx : 0 ≤ x ∧ x < 256) : Dig (zs.set k x) := by
  intro n hn
  rcases List.mem_or_eq_of_mem_set hn with h1 | h1
  · exact h n h1
  · rw [h1]; exact hx
theorem Dig.getD {zs : List Int} (h : Dig zs) (k : Nat) : 0 ≤ zs.getD k 0 ∧ zs.getD k 0 < 256 := by
  rw [List.getD_eq_getElem?_getD]
  cases hk : zs[k]? with
  | none => simp
  | some x => exact h x (List.mem_of_getElem? hk)
theorem Dig.getD' {zs : List Int} (h : Dig zs) (k : Nat) : 0 ≤ zs[k]?.getD 0 ∧ zs[k]?.getD 0 < 256 := by
  rw [← List.getD_eq_getElem?_getD]; exact h.getD k

theorem val_append (a b : List Int) : val (a ++ b) = val a + 256 ^ a.length * val b := by
  induction a with
  | nil => simp [val]
  | cons x r ih =>
    simp only [List.cons_append, val, ih, List.length_cons, Int.pow_succ]
    rw [Int.mul_add, ← Int.mul_assoc, Int.mul_comm 256 (256 ^ r.length)]
    omega

theorem val_zeros (k : Nat) : val (List.replicate k 0) = 0 := by
  induction k with
  | zero => rfl
  | succ k ih => simp [List.replicate_succ, val, ih]

theorem pow256_pos (k : Nat) : (0 : Int) < 256 ^ k := Int.pow_pos (by omega)

theorem pow256_le {a b : Nat} (h : a ≤ b) : (256 : Int) ^ a ≤ 256 ^ b := by
  obtain ⟨c, rfl⟩ : ∃ c, b = a + c := ⟨b - a, by omega⟩
  induction c with
  | zero => exact Int.le_refl _
  | succ c ih =>
    have := ih (by omega)
    have := pow256_pos (a + c)
    rw [← Nat.add_assoc, Int.pow_succ]
    omega

theorem val_nonneg {zs : List Int} (h : Dig zs) : 0 ≤ val zs := by
  induction zs with
  | nil => simp [val]
  | cons x r ih => have := ih h.tail; have := h.head; simp only [val]; omega

theorem val_lt {zs : List Int} (h : Dig zs) : val zs < 256 ^ zs.length := by
  induction zs with
  | nil => simp [val]
  | cons x r ih =>
    have := ih h.tail; have := h.head
    simp only [val, List.length_cons, Int.pow_succ]
    omega

theorem topLen_le (zs : List Int) (n : Nat) : topLen zs n ≤ n := by
  induction n with
  | zero => simp [topLen]
  | succ n ih => simp only [topLen]; split <;> omega

theorem topLen_top {zs : List Int} {n k : Nat} (h : topLen zs n = k + 1) : zs.getD k 0 ≠ 0 := by
  induction n with
  | zero => simp [topLen] at h
  | succ n ih =>
    simp only [topLen] at h
    split at h
    · exact ih h
    · rename_i h0
      have : n = k := by omega
      rw [← this]; exact h0

theorem val_take_succ (zs : List Int) (n : Nat) : val (zs.take (n + 1)) = val (zs.take n) + 256 ^ n * zs.getD n 0 := by
  induction zs generalizing n with
  | nil => simp [val]
  | cons x r ih =>
    cases n with
    | zero => simp [val]
    | succ n =>
      simp only [List.take_succ_cons, val, ih n, List.getD_cons_succ, Int.pow_succ]
      rw [Int.mul_add, ← Int.mul_assoc, Int.mul_comm 256 (256 ^ n)]
      omega

theorem val_take_topLen (zs : List Int) (n : Nat) : val (zs.take (topLen zs n)) = val (zs.take n) := by
  induction n with
  | zero => simp [topLen]
  | succ n ih =>
    simp only [topLen]
    split
    · rename_i h0
      rw [val_take_succ, h0, ih]; simp
    · rfl

theorem val_trimL (zs : List Int) : val (trimL zs) = val zs := by
  unfold trimL; rw [val_take_topLen, List.take_length]

theorem Dig.trimL {zs : List Int} (h : Dig zs) : Dig (trimL zs) := h.take _

theorem trimL_length (zs : List Int) : (trimL zs).length = topLen zs zs.length := by
  unfold trimL; rw [List.length_take]; have := topLen_le zs zs.length; omega

theorem trimL_le (zs : List Int) : (trimL zs).length ≤ zs.length := by rw [trimL_length]; exact topLen_le _ _

theorem trimL_getD (zs : List Int) (i : Nat) (h : i < (trimL zs).length) : (trimL zs).getD i 0 = zs.getD i 0 := by
  rw [trimL_length] at h
  unfold trimL
  simp [List.getD_eq_getElem?_getD, List.getElem?_take, h]

theorem norm_trimL (zs : List Int) : Norm (trimL zs) := by
  unfold Norm
  rw [List.getLast?_eq_getElem?]
  intro h
  have hl : (trimL zs).length - 1 < (trimL zs).length := by
    rcases Nat.lt_or_ge ((trimL zs).length - 1) (trimL zs).length with h1 | h1
    · exact h1
    · rw [List.getElem?_eq_none h1] at h; cases h
  have hg := trimL_getD zs _ hl
  rw [List.getD_eq_getElem?_getD, h] at hg
  have ht : topLen zs zs.length = ((trimL zs).length - 1) + 1 := by rw [trimL_length] at *; omega
  exact topLen_top ht hg.symm

theorem Norm.tail {x : Int} {r : List Int} (h : Norm (x :: r)) : Norm r := by
  unfold Norm at *
  cases r with
  | nil => simp
  | cons y r => simpa [List.getLast?_cons_cons] using h

theorem norm_zero {zs : List Int} (hd : Dig zs) (hn : Norm zs) (h : val zs = 0) : zs = [] := by
  induction zs with
  | nil => rfl
  | cons x r ih =>
    have h1 := hd.head
    have h2 := val_nonneg hd.tail
    simp only [val] at h
    have hr : val r = 0 := by omega
    have hx : x = 0 := by omega
    have := ih hd.tail hn.tail hr
    subst this; subst hx
    exact absurd rfl hn

/-- A number has one list of digits without a zero at the top. -/
theorem norm_unique {a b : List Int} (ha : Dig a) (hb : Dig b) (na : Norm a) (nb : Norm b) (h : val a = val b) : a = b := by
  induction a generalizing b with
  | nil => exact (norm_zero hb nb (by simpa [val] using h.symm)).symm
  | cons x r ih =>
    cases b with
    | nil => exact norm_zero ha na (by simpa [val] using h)
    | cons y s =>
      have h1 := ha.head; have h2 := hb.head
      simp only [val] at h
      have hxy : x = y := by omega
      have hv : val r = val s := by omega
      rw [hxy, ih ha.tail hb.tail na.tail nb.tail hv]

theorem trimL_eq {a b : List Int} (ha : Dig a) (hb : Dig b) (nb : Norm b) (h : val a = val b) : trimL a = b :=
  norm_unique ha.trimL hb (norm_trimL a) nb (by rw [val_trimL]; exact h)

theorem trimL_norm {a : List Int} (ha : Dig a) (na : Norm a) : trimL a = a := trimL_eq ha ha na rfl

theorem val_lb {zs : List Int} (hd : Dig zs) (hn : Norm zs) {k : Nat} (hk : zs.length = k + 1) : 256 ^ k ≤ val zs := by
  induction zs generalizing k with
  | nil => simp at hk
  | cons x r ih =>
    have h1 := hd.head
    cases k with
    | zero =>
      have : r = [] := List.length_eq_zero_iff.1 (by simpa using hk)
      subst this
      have hx : x ≠ 0 := by intro h; subst h; exact hn rfl
      simp [val]; omega
    | succ k =>
      have := ih hd.tail hn.tail (k := k) (by simpa using hk)
      simp only [val, Int.pow_succ]; omega

/-- Of two numbers without zeros at the top the one with fewer digits is the less. -/
theorem val_lt_of_length {a b : List Int} (ha : Dig a) (hb : Dig b) (nb : Norm b) (h : a.length < b.length) : val a < val b := by
  obtain ⟨k, hk⟩ : ∃ k, b.length = k + 1 := ⟨b.length - 1, by omega⟩
  have h1 := val_lt ha
  have h2 := val_lb hb nb hk
  have h3 : (256 : Int) ^ a.length ≤ 256 ^ k := pow256_le (by omega)
  omega

theorem val_split (zs : List Int) (k : Nat) (h : k ≤ zs.length) : val zs = val (zs.take k) + 256 ^ k * val (zs.drop k) := by
  have h1 := val_append (zs.take k) (zs.drop k)
  rw [List.take_append_drop, List.length_take, Nat.min_eq_left h] at h1
  exact h1

/-- Two numbers of one length that agree above digit i, where the first has the less. -/
theorem val_lt_of_digit {a b : List Int} (ha : Dig a) (hb : Dig b) (hl : a.length = b.length) {i : Nat} (hi : i < a.length) (hd : a.drop (i + 1) = b.drop (i + 1))
    (h : a.getD i 0 < b.getD i 0) : val a < val b := by
  have h1 := val_split a (i + 1) (by omega)
  have h2 := val_split b (i + 1) (by omega)
  rw [hd] at h1
  rw [val_take_succ] at h1 h2
  have h3 := val_lt (ha.take i)
  have h4 := val_nonneg (hb.take i)
  rw [List.length_take, Nat.min_eq_left (by omega)] at h3
  have h5 : (256 : Int) ^ i * (a.getD i 0 + 1) ≤ 256 ^ i * b.getD i 0 := Int.mul_le_mul_of_nonneg_left (by omega) (Int.le_of_lt (pow256_pos i))
  rw [Int.mul_add] at h5
  omega

theorem drop_getD_cons (zs : List Int) (i : Nat) (hi : i < zs.length) : zs.drop i = zs.getD i 0 :: zs.drop (i + 1) := by
  rw [List.drop_eq_getElem_cons hi]
  simp [List.getD_eq_getElem?_getD, hi]

theorem take_set_ge (zs : List Int) (i k : Nat) (x : Int) (h : k ≤ i) : (zs.set i x).take k = zs.take k := by
  rw [List.take_set_of_le h]

theorem getD_set_self (zs : List Int) (i : Nat) (x : Int) (h : i < zs.length) : (zs.set i x).getD i 0 = x := by
  simp [List.getD_eq_getElem?_getD, h]

theorem getD_set_ne (zs : List Int) (i j : Nat) (x : Int) (h : i ≠ j) : (zs.set i x).getD j 0 = zs.getD j 0 := by
  simp [List.getD_eq_getElem?_getD, List.getElem?_set_ne h]

theorem getD_ge (zs : List Int) (j : Nat) (h : zs.length ≤ j) : zs.getD j 0 = 0 := by
  simp [List.getD_eq_getElem?_getD, List.getElem?_eq_none h]

theorem val_take_ge (zs : List Int) (k : Nat) (h : zs.length ≤ k) : val (zs.take k) = val zs := by rw [List.take_of_length_le h]

end Go.Proofs.YgcsagGreat
