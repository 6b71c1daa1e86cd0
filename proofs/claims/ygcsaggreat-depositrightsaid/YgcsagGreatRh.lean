/-
  'kmodel': laws for 'Const', 'iota0' and 'Sum': operations on words and bytes, calls, loops with two slots.
-/
import Derived.Test.YgcsagGreatRb
import Derived.Test.YgcsagGreatRd
namespace Go.Proofs.YgcsagGreat
open Go.RowKit
set_option linter.unusedVariables false
set_option linter.unusedSimpArgs false
section
variable {w0 W W' : World} {D : List Nat} {L : List (Nat × Array Value × TypeId)} {g : Nat} {r r' : Array Value} {t : TypeId}
theorem KS.call1 (h : KS w0 D ((g, r, t) :: L) W) (k : KS W [g] [(g, r', t)] W') (hg : g ∈ D ∨ w0.heap.size ≤ g) (hne : ∀ p ∈ L, p.1 ≠ g) : KS w0 D ((g, r', t) :: L) W' :=
  h.comp k (fun b hb => by
    rcases List.mem_cons.1 hb with rfl | hb
    · exact hg
    · cases hb) (fun p hp => by
    rcases List.mem_cons.1 hp with rfl | hp
    · exact .inl List.mem_cons_self
    · exact .inr ⟨List.mem_cons_of_mem _ hp, by simp only [List.mem_cons, List.not_mem_nil, or_false]; exact hne p hp⟩)
theorem KS.start {w : World} (hg : w.heap[g]? = some (.cells r t (0, 0))) (D : List Nat) : KS w D [(g, r, t)] w := .refl fun p hp => by
  rcases List.mem_cons.1 hp with rfl | hp
  · exact hg
  · cases hp
end
theorem load_b {w : World} {g n N i : Nat} {tt : TypeId} {b : Bool} (hg : w.heap[g]? = some (.cells (rowKN n N) tt (0, 0))) (hi : i < n) (hb : tKN N i = b) : (loadVar 4 ⟨g, i, none⟩).run Sagg.prog w = .ok (.bool b) w := by
  rw [← hb]
  exact load_t hg hi
/-- A loop that counts up and carries more. -/
def cntE {Γ : Type} (slot : Nat) (more : List Nat) (bound : Nat) (k : IntKind) (vs : Γ → Nat → List Value) (I : Γ → Nat → World → Prop) (up : Γ → Nat → World → Γ) (fin : Γ → World → Γ) : LoopTip Γ where
  slots := slot :: more
  inv := fun γ _ us W => ∃ x : Nat, x ≤ bound ∧ us = .int k (x : Int) :: vs γ x ∧ I γ x W
  T := fun γ _ C => (∀ (x : Nat) (W : World), x < bound → I γ x W → C (up γ x W) (.int k (x : Int) :: vs γ x) W) ∧ (∀ W, I γ bound W → C (fin γ W) (.int k (bound : Int) :: vs γ bound) W)
  mu := fun _ us _ => bound - (intOfQ (us.headD undef)).toNat
theorem cntE_ok {Γ : Type} {slot bound : Nat} {more : List Nat} {k : IntKind} {vs : Γ → Nat → List Value} {I : Γ → Nat → World → Prop} {up : Γ → Nat → World → Γ} {fin : Γ → World → Γ} {γ : Γ} {w : World} : LoopOK (cntE slot more bound k vs I up fin) γ w := by
  rintro C ⟨h1, h2⟩ us w' hl ⟨x, hx, rfl, hi⟩
  rcases Nat.lt_or_ge x bound with h | h
  · exact ⟨_, h1 x w' h hi⟩
  · obtain rfl : x = bound := by omega
    exact ⟨_, h2 w' hi⟩
theorem cut_b {Γ : Type} {b : Bool} {g1 g2 : Γ} {w : World} : CutOK (fun C : Γ → World → Prop => (b = true → C g1 w) ∧ (b = false → C g2 w)) w := fun C h => by
  cases b
  · exact ⟨_, h.2 rfl⟩
  · exact ⟨_, h.1 rfl⟩
/-! ### Words and bytes -/
def landKN (a b : Nat) : Nat := Nat.land a b
def lorKN (a b : Nat) : Nat := Nat.lor a b
section
variable {P : Program} {t : TypeId} {w : World} {a b m : Nat}
theorem wrapU {a : Int} (h1 : 0 ≤ a) (h2 : a < 18446744073709551616) : IntKind.u64.wrap a = a := by
  simp [IntKind.wrap, IntKind.bits, IntKind.signed]; omega
theorem wrapB {a : Int} (h1 : 0 ≤ a) (h2 : a < 256) : IntKind.u8.wrap a = a := by
  simp [IntKind.wrap, IntKind.bits, IntKind.signed]; omega
theorem shr_u {s : Nat} {k : IntKind} (hs : s ≤ 64) : (binOp .shr t (.int .u64 a) (.int k s)).run P w = .ok (.int .u64 ((shKN a s : Nat) : Int)) w := by
  have h1 : ¬ (s : Int) < 0 := by omega
  have h2 : min (s : Int).toNat IntKind.u64.bits = s := by simp [IntKind.bits]; omega
  have h3 : (a : Int).fdiv (2 ^ s) = ((shKN a s : Nat) : Int) := by
    rw [Int.fdiv_eq_ediv_of_nonneg _ (Int.le_of_lt (Int.pow_pos (by omega)))]
    have e : shKN a s = a / 2 ^ s := Nat.shiftRight_eq_div_pow a s
    rw [e, Int.natCast_ediv]; simp
  exact shr_i (by omega) (by rw [h2]; exact h3)
theorem shr_b8 {s : Nat} {k : IntKind} (hs : s ≤ 8) : (binOp .shr t (.int .u8 a) (.int k s)).run P w = .ok (.int .u8 ((shKN a s : Nat) : Int)) w := by
  have h1 : ¬ (s : Int) < 0 := by omega
  have h2 : min (s : Int).toNat IntKind.u8.bits = s := by simp [IntKind.bits]; omega
  have h3 : (a : Int).fdiv (2 ^ s) = ((shKN a s : Nat) : Int) := by
    rw [Int.fdiv_eq_ediv_of_nonneg _ (Int.le_of_lt (Int.pow_pos (by omega)))]
    have e : shKN a s = a / 2 ^ s := Nat.shiftRight_eq_div_pow a s
    rw [e, Int.natCast_ediv]; simp
  exact shr_i (by omega) (by rw [h2]; exact h3)
theorem sh_le (a s : Nat) : shKN a s ≤ a := by
  have e : shKN a s = a / 2 ^ s := Nat.shiftRight_eq_div_pow a s
  rw [e]; exact Nat.div_le_self _ _
theorem bv_nat (n a : Nat) : BitVec.ofInt n (a : Int) = BitVec.ofNat n a := by
  apply BitVec.eq_of_toNat_eq
  simp [BitVec.toNat_ofInt]
theorem and_u' (ha : a < 18446744073709551616) (hb : b < 18446744073709551616) : (binOp .and t (.int .u64 a) (.int .u64 b)).run P w = .ok (.int .u64 ((a &&& b : Nat) : Int)) w := by
  have h1 : (BitVec.ofInt 64 (a : Int) &&& BitVec.ofInt 64 (b : Int)).toNat = a &&& b := by
    rw [bv_nat, bv_nat, BitVec.toNat_and, BitVec.toNat_ofNat, BitVec.toNat_ofNat, Nat.mod_eq_of_lt ha, Nat.mod_eq_of_lt hb]
  have h2 : a &&& b < 18446744073709551616 := Nat.and_lt_two_pow (n := 64) _ hb
  have h3 : IntKind.u64.wrap ((BitVec.ofInt 64 (a : Int) &&& BitVec.ofInt 64 (b : Int)).toNat : Int) = ((a &&& b : Nat) : Int) := by rw [h1]; exact wrapU (by omega) (by omega)
  simp only [binOp, Op.intBits]
  simp
  exact h3
theorem and_u (ha : a < 18446744073709551616) : (binOp .and t (.int .u64 a) (.int .u64 1)).run P w = .ok (.int .u64 ((landKN a 1 : Nat) : Int)) w := and_u' (b := 1) ha (by omega)
theorem and_b8' (ha : a < 256) (hb : b < 256) : (binOp .and t (.int .u8 a) (.int .u8 b)).run P w = .ok (.int .u8 ((a &&& b : Nat) : Int)) w := by
  have h1 : (BitVec.ofInt 8 (a : Int) &&& BitVec.ofInt 8 (b : Int)).toNat = a &&& b := by
    rw [bv_nat, bv_nat, BitVec.toNat_and, BitVec.toNat_ofNat, BitVec.toNat_ofNat, Nat.mod_eq_of_lt ha, Nat.mod_eq_of_lt hb]
  have h2 : a &&& b < 256 := Nat.and_lt_two_pow (n := 8) _ hb
  have h3 : IntKind.u8.wrap ((BitVec.ofInt 8 (a : Int) &&& BitVec.ofInt 8 (b : Int)).toNat : Int) = ((a &&& b : Nat) : Int) := by rw [h1]; exact wrapB (by omega) (by omega)
  simp only [binOp, Op.intBits]
  simp
  exact h3
theorem and_b8 (ha : a < 256) : (binOp .and t (.int .u8 a) (.int .u8 1)).run P w = .ok (.int .u8 ((landKN a 1 : Nat) : Int)) w := and_b8' (b := 1) ha (by omega)
theorem or_u (ha : a < 18446744073709551616) (hb : b < 18446744073709551616) : (binOp .or t (.int .u64 a) (.int .u64 b)).run P w = .ok (.int .u64 ((lorKN a b : Nat) : Int)) w := by
  have h1 : (BitVec.ofInt 64 (a : Int) ||| BitVec.ofInt 64 (b : Int)).toNat = a ||| b := by
    rw [bv_nat, bv_nat, BitVec.toNat_or, BitVec.toNat_ofNat, BitVec.toNat_ofNat, Nat.mod_eq_of_lt ha, Nat.mod_eq_of_lt hb]
  have h2 : a ||| b < 18446744073709551616 := Nat.or_lt_two_pow (n := 64) ha hb
  have h3 : IntKind.u64.wrap ((BitVec.ofInt 64 (a : Int) ||| BitVec.ofInt 64 (b : Int)).toNat : Int) = ((a ||| b : Nat) : Int) := by rw [h1]; exact wrapU (by omega) (by omega)
  simp only [binOp, Op.intBits]
  simp
  exact h3
theorem or_b8 (ha : a < 256) (hb : b < 256) : (binOp .or t (.int .u8 a) (.int .u8 b)).run P w = .ok (.int .u8 ((lorKN a b : Nat) : Int)) w := by
  have h1 : (BitVec.ofInt 8 (a : Int) ||| BitVec.ofInt 8 (b : Int)).toNat = a ||| b := by
    rw [bv_nat, bv_nat, BitVec.toNat_or, BitVec.toNat_ofNat, BitVec.toNat_ofNat, Nat.mod_eq_of_lt ha, Nat.mod_eq_of_lt hb]
  have h2 : a ||| b < 256 := Nat.or_lt_two_pow (n := 8) ha hb
  have h3 : IntKind.u8.wrap ((BitVec.ofInt 8 (a : Int) ||| BitVec.ofInt 8 (b : Int)).toNat : Int) = ((a ||| b : Nat) : Int) := by rw [h1]; exact wrapB (by omega) (by omega)
  simp only [binOp, Op.intBits]
  simp
  exact h3
theorem eql_bit {k : IntKind} {c z : Nat} : (binOp .eql t (.int k ((landKN (shKN c z) 1 : Nat) : Int)) (.int k 1)).run P w = .ok (.bool (tKN c z)) w := by
  have e : tKN c z = decide (((landKN (shKN c z) 1 : Nat) : Int) = 1) := by
    unfold tKN shKN landKN
    generalize Nat.land (Nat.shiftRight c z) 1 = m
    cases hb : Nat.beq m 1
    · have := Nat.ne_of_beq_eq_false hb
      rw [decide_eq_false (by omega)]
    · have := Nat.eq_of_beq_eq_true hb
      rw [decide_eq_true (by omega)]
  rw [e]
  by_cases h : ((landKN (shKN c z) 1 : Nat) : Int) = 1
  · rw [decide_eq_true h]; exact eql_t h
  · rw [decide_eq_false h]; exact eql_f h
end
theorem conv53 {x : Nat} (h : x < 256) {w : World} : (convert 5 3 (.int .u8 (x : Int))).run Sagg.prog w = .ok (.int .i64 (x : Int)) w := conv_i Sagg.underlying5 Sagg.underlying3 (wrap64 (by omega) (by omega))
theorem turn_call {Γ : Type} {g N : Nat} {tt : TypeId} {w : World} {γ : Γ} (hg : w.heap[g]? = some (.cells (rowKN 8 N) tt (0, 0))) : CallOK Sagg.prog 200 #[.pointer (some ⟨g, 0, none⟩)] w (fun C : Γ → Value → World → Prop => ∀ W, KS w [g] [(g, rowKN 8 (t4KN N), tt)] W → C γ (.tuple #[]) W) := fun C hC =>
  (turn_core tt g N [g] w (KS.start hg _) List.mem_cons_self).mono fun e W h => ⟨γ, _, h.1, hC W h.2⟩
set_option maxRecDepth 100000 in
theorem alloc264 {w : World} : (Instr.alloc 264 true (.tuple #[])).run Sagg.prog w = .ok (.pointer (some ⟨w.heap.size, 0, none⟩)) (w.alloc (.cells (rowKN 8 0) 264)) := by kernel_rfl
set_option maxRecDepth 100000 in
theorem build264 {w : World} : (Instr.build 264 #[(0, .bool true)]).run Sagg.prog w = .ok (.agg (rowKN 8 1)) w := by kernel_rfl
def pwKN (x : Nat) : Nat := 2 ^ x
theorem shl_a {x : Nat} (h : x < 7) {w : World} : (binOp .shl 134 (.int .u64 1) (.int .i64 (x : Int))).run Sagg.prog w = .ok (.int .u64 ((pwKN x : Nat) : Int)) w := by
  rcases (by omega : x = 0 ∨ x = 1 ∨ x = 2 ∨ x = 3 ∨ x = 4 ∨ x = 5 ∨ x = 6) with rfl | rfl | rfl | rfl | rfl | rfl | rfl <;> kernel_rfl
theorem sub_a {x : Nat} (h : x < 7) {w : World} : (binOp .sub 134 (.int .u64 ((pwKN x : Nat) : Int)) (.int .u64 1)).run Sagg.prog w = .ok (.int .u64 ((pwKN x - 1 : Nat) : Int)) w := by
  rcases (by omega : x = 0 ∨ x = 1 ∨ x = 2 ∨ x = 3 ∨ x = 4 ∨ x = 5 ∨ x = 6) with rfl | rfl | rfl | rfl | rfl | rfl | rfl <;> kernel_rfl
theorem shl_c {x : Nat} (h : x < 7) {w : World} : (binOp .shl 27 (.int .u64 1) (.int .u64 ((pwKN x - 1 : Nat) : Int))).run Sagg.prog w = .ok (.int .u64 ((pwKN (pwKN x - 1) : Nat) : Int)) w := by
  rcases (by omega : x = 0 ∨ x = 1 ∨ x = 2 ∨ x = 3 ∨ x = 4 ∨ x = 5 ∨ x = 6) with rfl | rfl | rfl | rfl | rfl | rfl | rfl <;> kernel_rfl
theorem pow_lt {x : Nat} (h : x < 7) : pwKN (pwKN x - 1) < 18446744073709551616 := by
  rcases (by omega : x = 0 ∨ x = 1 ∨ x = 2 ∨ x = 3 ∨ x = 4 ∨ x = 5 ∨ x = 6) with rfl | rfl | rfl | rfl | rfl | rfl | rfl <;> decide
end Go.Proofs.YgcsagGreat
