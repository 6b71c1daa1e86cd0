/-
  THE ARITHMETIC OF 'bits.Div64'. No program.
-/
import Derived.Lib.BitFns
namespace Go.Proofs.Ygcsag
set_option linter.unusedVariables false

abbrev B32 : Nat := 4294967296
abbrev B64 : Nat := 18446744073709551616

/-- The trial of a digit. -/
structure Trial (u n1 v1 v0 q r : Nat) : Prop where
  sum : r + q * v1 = u
  ge : (u * 4294967296 + n1) / (v1 * 4294967296 + v0) ≤ q
  top : q ≤ 4294967297
  small : r < 4294967296

section
variable {u n1 v1 v0 q r : Nat}

theorem test_iff (h : r + q * v1 = u) : q * (v1 * 4294967296 + v0) ≤ u * 4294967296 + n1 ↔ q * v0 ≤ 4294967296 * r + n1 := by
  rw [Nat.mul_add, ← Nat.mul_assoc]
  generalize q * v1 = x at *
  generalize q * v0 = y at *
  omega
theorem le_q {N v q : Nat} (hv : 0 < v) : q ≤ N / v ↔ q * v ≤ N := Nat.le_div_iff_mul_le hv
theorem quot_lt' {u n1 v : Nat} (hu : u < v) (hn : n1 < 4294967296) : (u * 4294967296 + n1) / v < 4294967296 := by
  rw [Nat.div_lt_iff_lt_mul (by omega)]
  omega
theorem quot_lt (hu : u < v1 * 4294967296 + v0) (hn : n1 < 4294967296) : (u * 4294967296 + n1) / (v1 * 4294967296 + v0) < 4294967296 := quot_lt' hu hn
theorem trial_start (h1 : 2147483648 ≤ v1) (h2 : v1 < 4294967296) (h0 : v0 < 4294967296) (hn : n1 < 4294967296) (hu : u < v1 * 4294967296 + v0) : Trial u n1 v1 v0 (u / v1) (u - u / v1 * v1) := by
  have hd := Nat.div_add_mod u v1
  have hm := Nat.mod_lt u (show 0 < v1 by omega)
  have hc : u / v1 * v1 = v1 * (u / v1) := Nat.mul_comm _ _
  refine ⟨by omega, ?_, ?_, by omega⟩
  · have : (u * 4294967296 + n1) / (v1 * 4294967296) = u / v1 := by
      rw [Nat.mul_comm v1, ← Nat.div_div_eq_div_mul]
      congr 1
      omega
    rw [← this]
    exact Nat.div_le_div_left (Nat.le_add_right _ _) (by omega)
  · have : u / v1 < 4294967298 := by
      rw [Nat.div_lt_iff_lt_mul (by omega)]
      omega
    omega
theorem trial_big (h : Trial u n1 v1 v0 q r) (hu : u < v1 * 4294967296 + v0) (hn : n1 < 4294967296) (hq : 4294967296 ≤ q) : (u * 4294967296 + n1) / (v1 * 4294967296 + v0) ≤ q - 1 := by
  have := quot_lt (v0 := v0) hu hn
  omega
theorem trial_over (h : Trial u n1 v1 v0 q r) (h1 : 0 < v1) (hq : 4294967296 * r + n1 < q * v0) : (u * 4294967296 + n1) / (v1 * 4294967296 + v0) ≤ q - 1 := by
  have h2 : ¬ q * (v1 * 4294967296 + v0) ≤ u * 4294967296 + n1 := by
    rw [test_iff h.sum]; omega
  have h3 : ¬ q ≤ (u * 4294967296 + n1) / (v1 * 4294967296 + v0) := by
    rw [le_q (by omega)]; exact h2
  omega
theorem trial_q (h : Trial u n1 v1 v0 q r) (hp : (u * 4294967296 + n1) / (v1 * 4294967296 + v0) ≤ q - 1) (hq : 0 < q) : r + v1 + (q - 1) * v1 = u := by
  have := h.sum
  obtain ⟨k, rfl⟩ : ∃ k, q = k + 1 := ⟨q - 1, by omega⟩
  rw [Nat.add_mul, Nat.one_mul] at this
  simp only [Nat.add_sub_cancel]
  omega
theorem trial_next (h : Trial u n1 v1 v0 q r) (hp : (u * 4294967296 + n1) / (v1 * 4294967296 + v0) ≤ q - 1) (hq : 0 < q) (hr : r + v1 < 4294967296) : Trial u n1 v1 v0 (q - 1) (r + v1) :=
  ⟨trial_q h hp hq, hp, by have := h.top; omega, hr⟩
theorem trial_end (h : Trial u n1 v1 v0 q r) (h1 : 0 < v1) (hq : q * v0 ≤ 4294967296 * r + n1) : q = (u * 4294967296 + n1) / (v1 * 4294967296 + v0) := by
  have h2 := h.ge
  have h3 : q ≤ (u * 4294967296 + n1) / (v1 * 4294967296 + v0) := by
    rw [le_q (by omega), test_iff h.sum]; exact hq
  omega
theorem trial_break (h : Trial u n1 v1 v0 q r) (h1 : 0 < v1) (h0 : v0 < 4294967296) (hp : (u * 4294967296 + n1) / (v1 * 4294967296 + v0) ≤ q - 1) (hq : 0 < q) (hr : ¬ r + v1 < 4294967296) : q - 1 = (u * 4294967296 + n1) / (v1 * 4294967296 + v0) := by
  have h3 : q - 1 ≤ (u * 4294967296 + n1) / (v1 * 4294967296 + v0) := by
    rw [le_q (by omega), test_iff (trial_q h hp hq)]
    have ht := h.top
    have : (q - 1) * v0 ≤ 4294967296 * v0 := Nat.mul_le_mul_right _ (by omega)
    omega
  omega
end

/-- Division by the shifted divisor. -/
structure Norm64 (hi lo y s v u t : Nat) : Prop where
  hv : v = y * 2 ^ s
  lt : v < 18446744073709551616
  ge : 9223372036854775808 ≤ v
  hu : u = hi * 2 ^ s + lo / 2 ^ (64 - s)
  ht : t = lo * 2 ^ s % 18446744073709551616
  hs : s ≤ 63
theorem Norm64.whole {hi lo y s v u t : Nat} (h : Norm64 hi lo y s v u t) : (hi * 18446744073709551616 + lo) * 2 ^ s = u * 18446744073709551616 + t := by
  rw [h.hu, h.ht]
  have hs := h.hs
  have e1 : (2 : Nat) ^ 64 = 2 ^ s * 2 ^ (64 - s) := by rw [← Nat.pow_add]; congr 1; omega
  have e2 : lo / 2 ^ (64 - s) = lo * 2 ^ s / 18446744073709551616 := by
    rw [show (18446744073709551616 : Nat) = 2 ^ s * 2 ^ (64 - s) from e1, Nat.mul_comm lo, Nat.mul_div_mul_left _ _ (Nat.two_pow_pos s)]
  rw [e2, Nat.add_mul, Nat.add_mul, Nat.mul_assoc, Nat.mul_comm 18446744073709551616 (2 ^ s), ← Nat.mul_assoc]
  have := Nat.div_add_mod (lo * 2 ^ s) 18446744073709551616
  omega
theorem Norm64.u_lt {hi lo y s v u t : Nat} (h : Norm64 hi lo y s v u t) (hy : hi < y) (hl : lo < 18446744073709551616) : u < v := by
  have hw := h.whole
  have h1 : (hi * 18446744073709551616 + lo) < y * 18446744073709551616 := by omega
  have h2 : (hi * 18446744073709551616 + lo) * 2 ^ s < y * 18446744073709551616 * 2 ^ s := Nat.mul_lt_mul_of_pos_right h1 (Nat.two_pow_pos s)
  have h3 : y * 18446744073709551616 * 2 ^ s = v * 18446744073709551616 := by rw [h.hv, Nat.mul_assoc, Nat.mul_comm 18446744073709551616, ← Nat.mul_assoc]
  omega
/-- What is answered. -/
theorem Norm64.answer {hi lo y s v u t q1 r1 q0 r0 : Nat} (h : Norm64 hi lo y s v u t) (hy : 0 < y) (h1 : v * q1 + r1 = u * 4294967296 + t / 4294967296) (h0 : v * q0 + r0 = r1 * 4294967296 + t % 4294967296) (hr : r0 < v) :
    (q1 * 4294967296 + q0) * y + r0 / 2 ^ s = hi * 18446744073709551616 + lo ∧ r0 / 2 ^ s < y := by
  have hp := Nat.two_pow_pos s
  have hw := h.whole
  have hm := Nat.div_add_mod t 4294967296
  have e1 : v * (q1 * 4294967296 + q0) + r0 = (hi * 18446744073709551616 + lo) * 2 ^ s := by
    rw [hw, Nat.mul_add, ← Nat.mul_assoc]
    generalize v * q1 = a at *
    generalize v * q0 = b at *
    omega
  have e2 : v * (q1 * 4294967296 + q0) = (q1 * 4294967296 + q0) * y * 2 ^ s := by rw [h.hv, Nat.mul_comm, Nat.mul_assoc]
  rw [e2] at e1
  obtain ⟨q, hq⟩ : ∃ q, q = q1 * 4294967296 + q0 := ⟨_, rfl⟩
  obtain ⟨N, hN⟩ : ∃ N, N = hi * 18446744073709551616 + lo := ⟨_, rfl⟩
  rw [← hq, ← hN] at e1
  rw [← hq, ← hN]
  have e3 : q * y ≤ N := by
    have : q * y * 2 ^ s ≤ N * 2 ^ s := by omega
    exact Nat.le_of_mul_le_mul_right this hp
  have e4 : r0 = (N - q * y) * 2 ^ s := by rw [Nat.sub_mul]; omega
  have e5 : r0 / 2 ^ s = N - q * y := by rw [e4, Nat.mul_div_cancel _ hp]
  refine ⟨by rw [e5]; omega, ?_⟩
  rw [Nat.div_lt_iff_lt_mul hp, ← h.hv]
  exact hr
theorem bitLen_bounds : ∀ (f x : Nat), x < 2 ^ f → 0 < x → 2 ^ (Lib.bitLenAux f x - 1) ≤ x ∧ x < 2 ^ Lib.bitLenAux f x ∧ 0 < Lib.bitLenAux f x
  | 0, x, h, h0 => by simp at h; omega
  | f + 1, x, h, h0 => by
    unfold Lib.bitLenAux
    rw [if_neg (by omega)]
    rcases Nat.eq_zero_or_pos (x / 2) with h2 | h2
    · have : x = 1 := by omega
      subst this
      have : Lib.bitLenAux f 0 = 0 := by cases f <;> simp [Lib.bitLenAux]
      simp [this]
    · obtain ⟨a, b, c⟩ := bitLen_bounds f (x / 2) (by rw [Nat.pow_succ] at h; omega) h2
      obtain ⟨k, hk⟩ : ∃ k, Lib.bitLenAux f (x / 2) = k + 1 := ⟨Lib.bitLenAux f (x / 2) - 1, by omega⟩
      rw [hk] at a b ⊢
      simp only [Nat.add_sub_cancel, Nat.add_sub_cancel_left] at a ⊢
      rw [Nat.pow_succ] at b
      refine ⟨?_, ?_, by omega⟩
      · rw [Nat.pow_succ]; omega
      · rw [Nat.add_comm 1, Nat.pow_succ, Nat.pow_succ]; omega
end Go.Proofs.Ygcsag
