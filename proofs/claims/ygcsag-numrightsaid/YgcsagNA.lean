/-
  'bits.Div64' OF Go's LIBRARY.
-/
import Derived.Test.YgcsagLaw
import Derived.Test.YgcsagDivM
import Derived.Test.YgcsagLead64
namespace Go.Proofs.Ygcsag
open Go.RowKit
set_option linter.unusedVariables false
set_option linter.unusedSimpArgs false

section
variable {P : Program} {t : TypeId} {w : World} {a b m : Nat}
theorem wrapU {a : Int} (h1 : 0 ≤ a) (h2 : a < 18446744073709551616) : IntKind.u64.wrap a = a := by
  simp [IntKind.wrap, IntKind.bits, IntKind.signed]; omega
theorem wrapM {a : Int} : IntKind.u64.wrap a = a % 18446744073709551616 := by
  simp [IntKind.wrap, IntKind.bits, IntKind.signed]
theorem addU (h : m = a + b) (hm : m < 18446744073709551616) : (binOp .add t (.int .u64 a) (.int .u64 b)).run P w = .ok (.int .u64 (m : Nat)) w := add_i (by subst h; rw [wrapU (by omega) (by omega)]; omega)
theorem subU (h : b ≤ a) (hm : m = a - b) (ha : a < 18446744073709551616) : (binOp .sub t (.int .u64 a) (.int .u64 b)).run P w = .ok (.int .u64 (m : Nat)) w := sub_i (by subst hm; rw [wrapU (by omega) (by omega)]; omega)
theorem mulU (h : m = a * b) (hm : m < 18446744073709551616) : (binOp .mul t (.int .u64 a) (.int .u64 b)).run P w = .ok (.int .u64 (m : Nat)) w := mul_i (by subst h; rw [← Int.natCast_mul, wrapU (by omega) (by omega)])
theorem mulM (h : m = a * b % 18446744073709551616) : (binOp .mul t (.int .u64 a) (.int .u64 b)).run P w = .ok (.int .u64 (m : Nat)) w := mul_i (by subst h; rw [← Int.natCast_mul, wrapM]; rfl)
theorem addM (h : m = (a + b) % 18446744073709551616) : (binOp .add t (.int .u64 a) (.int .u64 b)).run P w = .ok (.int .u64 (m : Nat)) w := add_i (by subst h; rw [wrapM]; omega)
theorem subM (h : (m : Int) = ((a : Int) - b) % 18446744073709551616) : (binOp .sub t (.int .u64 a) (.int .u64 b)).run P w = .ok (.int .u64 (m : Nat)) w := sub_i (by rw [h, wrapM])
theorem quoU (hb : 0 < b) (h : m = a / b) (ha : a < 18446744073709551616) : (binOp .quo t (.int .u64 a) (.int .u64 b)).run P w = .ok (.int .u64 (m : Nat)) w := by
  subst h
  have h1 : ¬ (b : Int) = 0 := by omega
  have h2 : IntKind.u64.wrap ((a : Int).tdiv b) = ((a / b : Nat) : Int) := by
    rw [Int.tdiv_eq_ediv_of_nonneg (by omega), ← Int.natCast_ediv]
    have := Nat.div_le_self a b
    generalize a / b = c at *
    exact wrapU (by omega) (by omega)
  simp only [binOp, Op.intDiv, h1, if_false, h2]
  simp
theorem remU (hb : 0 < b) (h : m = a % b) : (binOp .rem t (.int .u64 a) (.int .u64 b)).run P w = .ok (.int .u64 (m : Nat)) w := by
  subst h
  have h1 : ¬ (b : Int) = 0 := by omega
  have h2 : (a : Int).tmod b = ((a % b : Nat) : Int) := by
    rw [Int.tmod_eq_emod_of_nonneg (by omega), ← Int.natCast_emod]
  simp only [binOp, Op.intDiv, h1, if_false, h2]
  simp
theorem shlU {s : Nat} {k : IntKind} (hs : s ≤ 64) (h : m = a * 2 ^ s % 18446744073709551616) : (binOp .shl t (.int .u64 a) (.int k s)).run P w = .ok (.int .u64 (m : Nat)) w := by
  subst h
  have h1 : ¬ (s : Int) < 0 := by omega
  have h2 : min (s : Int).toNat IntKind.u64.bits = s := by simp [IntKind.bits]; omega
  simp only [binOp, Op.shift, h1, if_false, h2, wrapM]
  simp
theorem shrU {s : Nat} {k : IntKind} (hs : s ≤ 64) (h : m = a / 2 ^ s) : (binOp .shr t (.int .u64 a) (.int k s)).run P w = .ok (.int .u64 (m : Nat)) w := by
  subst h
  have h1 : ¬ (s : Int) < 0 := by omega
  have h2 : min (s : Int).toNat IntKind.u64.bits = s := by simp [IntKind.bits]; omega
  have h3 : (a : Int).fdiv (2 ^ s) = ((a / 2 ^ s : Nat) : Int) := by
    rw [Int.fdiv_eq_ediv_of_nonneg _ (Int.le_of_lt (Int.pow_pos (by omega)))]
    rw [Int.natCast_ediv]; simp
  simp [binOp, Op.shift, h1, h2, h3]
theorem bv_nat (a : Nat) : BitVec.ofInt 64 (a : Int) = BitVec.ofNat 64 a := by
  apply BitVec.eq_of_toNat_eq
  simp [BitVec.toNat_ofInt]
theorem andU (ha : a < 18446744073709551616) (hb : b < 18446744073709551616) (h : m = a &&& b) : (binOp .and t (.int .u64 a) (.int .u64 b)).run P w = .ok (.int .u64 (m : Nat)) w := by
  subst h
  have h1 : (BitVec.ofInt 64 (a : Int) &&& BitVec.ofInt 64 (b : Int)).toNat = a &&& b := by
    rw [bv_nat, bv_nat, BitVec.toNat_and, BitVec.toNat_ofNat, BitVec.toNat_ofNat, Nat.mod_eq_of_lt ha, Nat.mod_eq_of_lt hb]
  have h2 : a &&& b < 18446744073709551616 := Nat.and_lt_two_pow (n := 64) _ hb
  have h3 : IntKind.u64.wrap ((BitVec.ofInt 64 (a : Int) &&& BitVec.ofInt 64 (b : Int)).toNat : Int) = ((a &&& b : Nat) : Int) := by rw [h1]; exact wrapU (by omega) (by omega)
  simp only [binOp, Op.intBits]
  simp
  exact h3
theorem orU (ha : a < 18446744073709551616) (hb : b < 18446744073709551616) (h : m = a ||| b) : (binOp .or t (.int .u64 a) (.int .u64 b)).run P w = .ok (.int .u64 (m : Nat)) w := by
  subst h
  have h1 : (BitVec.ofInt 64 (a : Int) ||| BitVec.ofInt 64 (b : Int)).toNat = a ||| b := by
    rw [bv_nat, bv_nat, BitVec.toNat_or, BitVec.toNat_ofNat, BitVec.toNat_ofNat, Nat.mod_eq_of_lt ha, Nat.mod_eq_of_lt hb]
  have h2 : a ||| b < 18446744073709551616 := Nat.or_lt_two_pow (n := 64) ha hb
  have h3 : IntKind.u64.wrap ((BitVec.ofInt 64 (a : Int) ||| BitVec.ofInt 64 (b : Int)).toNat : Int) = ((a ||| b : Nat) : Int) := by rw [h1]; exact wrapU (by omega) (by omega)
  simp only [binOp, Op.intBits]
  simp
  exact h3
end

/-- The numbers of a division. -/
structure D36 (hi lo y s v v1 v0 u t n1 n0 Q1 R1 Q0 R0 : Nat) : Prop where
  dn : Norm64 hi lo y s v u t
  hy : 0 < y
  dlt : hi < y
  yM : y < 18446744073709551616
  dlo : lo < 18446744073709551616
  ds : s = 64 - Lib.bitLen y
  ev : v = v1 * 4294967296 + v0
  v1L : 2147483648 ≤ v1
  v1M : v1 < 4294967296
  v0M : v0 < 4294967296
  et : t = n1 * 4294967296 + n0
  n1M : n1 < 4294967296
  n0M : n0 < 4294967296
  du : u < v
  dQ1 : Q1 = (u * 4294967296 + n1) / (v1 * 4294967296 + v0)
  dR1 : v * Q1 + R1 = u * 4294967296 + n1
  R1M : R1 < v
  dQ0 : Q0 = (R1 * 4294967296 + n0) / (v1 * 4294967296 + v0)
  dR0 : v * Q0 + R0 = R1 * 4294967296 + n0
  R0M : R0 < v
theorem norm_exists {hi lo y : Nat} (hy : 0 < y) (hyM : y < 18446744073709551616) : ∃ v u t, Norm64 hi lo y (64 - Lib.bitLen y) v u t := by
  refine ⟨_, _, _, rfl, ?_, ?_, rfl, rfl, ?_⟩
  all_goals
    obtain ⟨h1, h2, h3⟩ := bitLen_bounds 64 y hyM hy
    have h4 : Lib.bitLenAux 64 y ≤ 64 := Lib.bitLenAux_le 64 y 64 hyM
    show _
    unfold Lib.bitLen
  · have : y * 2 ^ (64 - Lib.bitLenAux 64 y) < 2 ^ Lib.bitLenAux 64 y * 2 ^ (64 - Lib.bitLenAux 64 y) := Nat.mul_lt_mul_of_pos_right h2 (Nat.two_pow_pos _)
    rw [← Nat.pow_add, show Lib.bitLenAux 64 y + (64 - Lib.bitLenAux 64 y) = 64 by omega] at this
    exact this
  · have : 2 ^ (Lib.bitLenAux 64 y - 1) * 2 ^ (64 - Lib.bitLenAux 64 y) ≤ y * 2 ^ (64 - Lib.bitLenAux 64 y) := Nat.mul_le_mul_right _ h1
    rw [← Nat.pow_add, show Lib.bitLenAux 64 y - 1 + (64 - Lib.bitLenAux 64 y) = 63 by omega] at this
    exact this
  · omega
theorem d36_exists {hi lo y : Nat} (hlt : hi < y) (hyM : y < 18446744073709551616) (hlo : lo < 18446744073709551616) : ∃ s v v1 v0 u t n1 n0 Q1 R1 Q0 R0, D36 hi lo y s v v1 v0 u t n1 n0 Q1 R1 Q0 R0 := by
  obtain ⟨v, u, t, h⟩ := norm_exists (hi := hi) (lo := lo) (y := y) (by omega) hyM
  have h1 := h.lt
  have h2 := h.ge
  have hu := h.u_lt hlt hlo
  have ht : t < 18446744073709551616 := by rw [h.ht]; exact Nat.mod_lt _ (by omega)
  have ev : v / 4294967296 * 4294967296 + v % 4294967296 = v := by omega
  refine ⟨_, v, v / 4294967296, v % 4294967296, u, t, t / 4294967296, t % 4294967296, (u * 4294967296 + t / 4294967296) / v, (u * 4294967296 + t / 4294967296) % v, ((u * 4294967296 + t / 4294967296) % v * 4294967296 + t % 4294967296) / v, ((u * 4294967296 + t / 4294967296) % v * 4294967296 + t % 4294967296) % v,
    h, by omega, hlt, hyM, hlo, rfl, by omega, by omega, by omega, by omega, by omega, by omega, by omega, hu, by rw [ev], Nat.div_add_mod _ _, Nat.mod_lt _ (by omega), by rw [ev], Nat.div_add_mod _ _, Nat.mod_lt _ (by omega)⟩

structure G36 where
  hz : Bool := false
  q : Nat := 0
  r : Nat := 0
  big : Bool := false
  over : Bool := false
  brk : Bool := false
def G36.h1 : G36 := { hz := true }
def G36.h2 : G36 := { hz := false }
def G36.e (q r : Nat) : G36 := { q := q, r := r, big := false, over := false }
def G36.b1 (q r : Nat) : G36 := { q := q, r := r, big := true, brk := false }
def G36.b2 (q r : Nat) : G36 := { q := q, r := r, big := true, brk := true }
def G36.o1 (q r : Nat) : G36 := { q := q, r := r, big := false, over := true, brk := false }
def G36.o2 (q r : Nat) : G36 := { q := q, r := r, big := false, over := true, brk := true }
def cut36 (hi : Nat) (w : World) (C : G36 → World → Prop) : Prop := (hi = 0 → C G36.h1 w) ∧ (0 < hi → C G36.h2 w)
theorem cut36_ok (hi : Nat) (w : World) : CutOK (cut36 hi w) w := by
  rintro C ⟨h1, h2⟩
  by_cases e : hi = 0
  · exact ⟨_, h1 e⟩
  · exact ⟨_, h2 (by omega)⟩
def loop36 (sl : List Nat) (u n1 v1 v0 : Nat) : LoopTip G36 where
  slots := sl
  inv := fun _ w us w' => ∃ q r : Nat, us = [.int .u64 (q : Nat), .int .u64 (r : Nat)] ∧ w' = w ∧ Trial u n1 v1 v0 q r
  T := fun _ w C => ∀ q r : Nat, Trial u n1 v1 v0 q r →
    (q < 4294967296 → q * v0 ≤ 4294967296 * r + n1 → C (G36.e q r) [.int .u64 (q : Nat), .int .u64 (r : Nat)] w) ∧
    (4294967296 ≤ q → r + v1 < 4294967296 → C (G36.b1 q r) [.int .u64 (q : Nat), .int .u64 (r : Nat)] w) ∧ (4294967296 ≤ q → 4294967296 ≤ r + v1 → C (G36.b2 q r) [.int .u64 (q : Nat), .int .u64 (r : Nat)] w) ∧
    (q < 4294967296 → 4294967296 * r + n1 < q * v0 → r + v1 < 4294967296 → C (G36.o1 q r) [.int .u64 (q : Nat), .int .u64 (r : Nat)] w) ∧ (q < 4294967296 → 4294967296 * r + n1 < q * v0 → 4294967296 ≤ r + v1 → C (G36.o2 q r) [.int .u64 (q : Nat), .int .u64 (r : Nat)] w)
  mu := fun _ us _ => (intOf (us.headD undef)).toNat
theorem loop36_ok (sl : List Nat) (u n1 v1 v0 : Nat) (g : G36) (w : World) : LoopOK (loop36 sl u n1 v1 v0) g w := by
  rintro C h us w' - ⟨q, r, rfl, rfl, ht⟩
  obtain ⟨h1, h2, h3, h4, h5⟩ := h q r ht
  by_cases e1 : q < 4294967296
  · by_cases e2 : q * v0 ≤ 4294967296 * r + n1
    · exact ⟨_, h1 e1 e2⟩
    · by_cases e3 : r + v1 < 4294967296
      · exact ⟨_, h4 e1 (by omega) e3⟩
      · exact ⟨_, h5 e1 (by omega) (by omega)⟩
  · by_cases e3 : r + v1 < 4294967296
    · exact ⟨_, h2 (by omega) e3⟩
    · exact ⟨_, h3 (by omega) (by omega)⟩
def join36 (sl : List Nat) (Q : Nat) : JoinTip G36 where
  slots := sl
  inv := fun _ w us w' => us = [.int .u64 (Q : Nat)] ∧ w' = w
  T := fun g w C => C g [.int .u64 (Q : Nat)] w
theorem join36_ok (sl : List Nat) (Q : Nat) (g : G36) (w : World) : JoinOK (join36 sl Q) g w := by
  rintro C h us w' - ⟨rfl, rfl⟩
  exact ⟨_, h⟩
def nat64 (n : Nat) : Tip G36 := { val := some fun _ => .int .u64 (n : Int) }
def tips36 (hi lo y s v v1 v0 u t n1 n0 Q1 R1 Q0 R0 : Nat) : Tips G36 where
  ops := [(20, { val := some fun _ => .bool false }), (24, { val := some fun _ => .bool false }), (27, { val := some fun g => .bool g.hz }), (30, nat64 (lo / y)), (33, nat64 (lo % y)), (35, { tr := some fun g w C => C g (.int .i64 (s : Int)) w }), (36, nat64 s), (39, nat64 v), (41, nat64 v1), (43, nat64 v0),
    (46, nat64 (hi * 2 ^ s)), (49, nat64 (64 - s)), (50, nat64 (lo / 2 ^ (64 - s))), (51, nat64 u), (54, nat64 t), (56, nat64 n1), (58, nat64 n0), (61, nat64 (u / v1)), (65, nat64 (u / v1 * v1)), (66, nat64 (u - u / v1 * v1)),
    (68, { val := some fun g => .bool g.big }), (72, { val := some fun g => .int .u64 (g.q * v0 : Nat) }), (74, { val := some fun g => .int .u64 (4294967296 * g.r : Nat) }), (76, { val := some fun g => .int .u64 (4294967296 * g.r + n1 : Nat) }), (77, { val := some fun g => .bool g.over }), (80, { val := some fun g => .int .u64 (g.q - 1 : Nat) }), (83, { val := some fun g => .int .u64 (g.r + v1 : Nat) }), (85, { val := some fun g => .bool g.brk }),
    (87, nat64 (u * 4294967296 % 18446744073709551616)), (89, nat64 ((u * 4294967296 % 18446744073709551616 + n1) % 18446744073709551616)), (92, nat64 (Q1 * v % 18446744073709551616)), (93, nat64 R1), (96, nat64 (R1 / v1)), (100, nat64 (R1 / v1 * v1)), (101, nat64 (R1 - R1 / v1 * v1)),
    (103, { val := some fun g => .bool g.big }), (107, { val := some fun g => .int .u64 (g.q * v0 : Nat) }), (109, { val := some fun g => .int .u64 (4294967296 * g.r : Nat) }), (111, { val := some fun g => .int .u64 (4294967296 * g.r + n0 : Nat) }), (112, { val := some fun g => .bool g.over }), (115, { val := some fun g => .int .u64 (g.q - 1 : Nat) }), (118, { val := some fun g => .int .u64 (g.r + v1 : Nat) }), (120, { val := some fun g => .bool g.brk }),
    (122, nat64 (Q1 * 4294967296)), (124, nat64 (Q1 * 4294967296 + Q0)), (126, nat64 (R1 * 4294967296 % 18446744073709551616)), (128, nat64 ((R1 * 4294967296 % 18446744073709551616 + n0) % 18446744073709551616)), (131, nat64 (Q0 * v % 18446744073709551616)), (132, nat64 R0), (134, nat64 (R0 / 2 ^ s))]
  cuts := [(5, fun _ w C => cut36 hi w C)]
  loops := [(17, loop36 [15, 16] u n1 v1 v0), (24, loop36 [18, 16] R1 n0 v1 v0)]
  joins := [(21, join36 [15] Q1), (28, join36 [18] Q0)]
def post36 (hi lo y : Nat) (w : World) : Ending → World → Prop := fun e w' => ∃ q r : Nat, e = .returned (.tuple #[.int .u64 (q : Nat), .int .u64 (r : Nat)]) ∧ (q * y + r = hi * 18446744073709551616 + lo ∧ r < y) ∧ ∃ n, w' = w.drewN n
section
variable {hi lo y s v v1 v0 u t n1 n0 Q1 R1 Q0 R0 : Nat} (d : D36 hi lo y s v v1 v0 u t n1 n0 Q1 R1 Q0 R0)
include d
theorem D36.s63 : s ≤ 63 := d.dn.hs
theorem D36.vM : v < 18446744073709551616 := d.dn.lt
theorem D36.shl_y : v = y * 2 ^ s % 18446744073709551616 := by
  have h := d.dn.hv
  have h2 := d.dn.lt
  rw [← h, Nat.mod_eq_of_lt h2]
theorem D36.hi_lt : hi * 2 ^ s < v := by
  rw [d.dn.hv]; exact Nat.mul_lt_mul_of_pos_right d.dlt (Nat.two_pow_pos s)
theorem D36.shl_hi : hi * 2 ^ s = hi * 2 ^ s % 18446744073709551616 := by
  have h1 := d.hi_lt
  have h2 := d.dn.lt
  rw [Nat.mod_eq_of_lt (by omega)]
theorem D36.v1e : v1 = v / 2 ^ 32 := by have := d.ev; have := d.v0M; omega
theorem D36.v0e : v0 = v &&& 4294967295 := by
  have h := Nat.and_two_pow_sub_one_eq_mod v 32
  have h1 := d.ev
  have h2 := d.v0M
  rw [show (4294967295 : Nat) = 2 ^ 32 - 1 from rfl, h]
  omega
theorem D36.tM : t < 18446744073709551616 := by rw [d.dn.ht]; exact Nat.mod_lt _ (by omega)
theorem D36.n1e : n1 = t / 2 ^ 32 := by have := d.et; have := d.n0M; omega
theorem D36.n0e : n0 = t &&& 4294967295 := by
  have h := Nat.and_two_pow_sub_one_eq_mod t 32
  have h1 := d.et
  have h2 := d.n0M
  rw [show (4294967295 : Nat) = 2 ^ 32 - 1 from rfl, h]
  omega
theorem D36.lo_lt : lo / 2 ^ (64 - s) < 2 ^ s := by
  rw [Nat.div_lt_iff_lt_mul (Nat.two_pow_pos _), ← Nat.pow_add, show s + (64 - s) = 64 by have := d.s63; omega]
  exact d.dlo
theorem D36.or_u : u = hi * 2 ^ s ||| lo / 2 ^ (64 - s) := by
  rw [d.dn.hu, Nat.mul_comm, Nat.two_pow_add_eq_or_of_lt d.lo_lt]
theorem D36.s_le : 2 ^ s < 18446744073709551616 := Nat.pow_lt_pow_right (by omega) (show s < 64 by have := d.s63; omega)
theorem D36.Q1M : Q1 < 4294967296 := by
  rw [d.dQ1]; exact quot_lt (by have := d.du; have := d.ev; omega) d.n1M
theorem D36.Q0M : Q0 < 4294967296 := by
  rw [d.dQ0]; exact quot_lt (by have := d.R1M; have := d.ev; omega) d.n0M
theorem D36.trial1 : Trial u n1 v1 v0 (u / v1) (u - u / v1 * v1) := trial_start d.v1L d.v1M d.v0M d.n1M (by have := d.du; have := d.ev; omega)
theorem D36.trial0 : Trial R1 n0 v1 v0 (R1 / v1) (R1 - R1 / v1 * v1) := trial_start d.v1L d.v1M d.v0M d.n0M (by have := d.R1M; have := d.ev; omega)
theorem D36.ans : (Q1 * 4294967296 + Q0) * y + R0 / 2 ^ s = hi * 18446744073709551616 + lo ∧ R0 / 2 ^ s < y :=
  d.dn.answer d.hy (by rw [d.dR1]; have := d.et; have := d.n0M; omega) (by rw [d.dR0]; have := d.et; have := d.n0M; omega) d.R0M
theorem D36.u' : u < v1 * 4294967296 + v0 := by have := d.du; have := d.ev; omega
theorem D36.R1' : R1 < v1 * 4294967296 + v0 := by have := d.R1M; have := d.ev; omega
theorem D36.lead (w : World) : Calls Sagg.prog 60 #[.int .u64 (y : Int)] w fun e w' => e = .returned (.int .i64 (s : Int)) ∧ w' = w := by
  have hy := d.yM
  have := Sagg.bits_LeadingZeros64 (y : Int) w (by omega) (by omega)
  rw [Int.toNat_natCast] at this
  have hb : Lib.bitLen y ≤ 64 := Lib.bitLen_le y 64 (by omega) hy
  have e : (64 - (Lib.bitLen y : Int)) = (s : Int) := by rw [d.ds]; omega
  rwa [e] at this
end
theorem rem_wrap {u n v Q R : Nat} (h : v * Q + R = u * 4294967296 + n) (hR : R < 18446744073709551616) : (R : Int) = ((((u * 4294967296 % 18446744073709551616 + n) % 18446744073709551616 : Nat) : Int) - ((Q * v % 18446744073709551616 : Nat) : Int)) % 18446744073709551616 := by
  rw [Nat.mul_comm Q v]
  generalize v * Q = z at *
  omega
theorem mul_small {a b : Nat} (ha : a < 4294967296) (hb : b < 4294967296) : a * b < 18446744073709551616 := by
  have := Nat.mul_lt_mul'' ha hb
  omega
theorem div_mul_le' (a b : Nat) : a / b * b ≤ a := Nat.div_mul_le_self a b
theorem mu_lt {q : Nat} (h : 0 < q) : ((q - 1 : Nat) : Int).toNat < ((q : Nat) : Int).toNat := by omega
theorem pos_over {a q v0 : Nat} (h : a < q * v0) : 0 < q := by
  rcases Nat.eq_zero_or_pos q with h1 | h1
  · subst h1; simp at h
  · exact h1
theorem one_eq {q Q : Nat} (h : q = Q) : [Value.int .u64 ((q : Nat) : Int)] = [Value.int .u64 ((Q : Nat) : Int)] := by rw [h]
theorem lead_ok {y s : Nat} {w : World} {g : G36} (h : Calls Sagg.prog 60 #[.int .u64 (y : Int)] w fun e w' => e = .returned (.int .i64 (s : Int)) ∧ w' = w) : CallOK Sagg.prog 60 #[.int .u64 (y : Int)] w fun C : G36 → Value → World → Prop => C g (.int .i64 (s : Int)) w :=
  fun C hC => h.mono fun e w' ⟨h1, h2⟩ => ⟨g, _, h1, by rw [h2]; exact hC⟩
theorem conv_s {s : Nat} {w : World} (h : s ≤ 63) : (convert 3 72 (.int .i64 (s : Int))).run Sagg.prog w = .ok (.int .u64 (s : Int)) w := by
  have h1 : IntKind.u64.wrap (s : Int) = s := wrapU (by omega) (by omega)
  simp [convert, run_underlying Sagg.underlying3, run_underlying Sagg.underlying72, Conv.intToInt, h1]

set_option maxRecDepth 100000 in
set_option maxHeartbeats 8000000 in
theorem div64_core (hi lo y s v v1 v0 u t n1 n0 Q1 R1 Q0 R0 : Nat) (w : World) (d : D36 hi lo y s v v1 v0 u t n1 n0 Q1 R1 Q0 R0) : Calls Sagg.prog 36 #[.int .u64 (hi : Int), .int .u64 (lo : Int), .int .u64 (y : Int)] w (post36 hi lo y w) := by
  refine CX_calls (tips36 hi lo y s v v1 v0 u t n1 n0 Q1 R1 Q0 R0) {} (by kernel_rfl) Sagg.func36 rfl _ rfl (by kernel_rfl) ?_
  refine of_eq (p := Sem.run Sagg.prog (binOp BinOp.eql 31 (Value.int IntKind.u64 ↑y) (Value.int IntKind.u64 0)) w = Result.ok (Value.bool false) w ∧ Sem.run Sagg.prog (binOp BinOp.leq 31 (Value.int IntKind.u64 ↑y) (Value.int IntKind.u64 ↑hi)) w = Result.ok (Value.bool false) w ∧ CutOK (fun (C : G36 → World → Prop) => cut36 hi w C) w ∧ (hi = 0 → Sem.run Sagg.prog (binOp BinOp.eql 31 (Value.int IntKind.u64 ↑hi) (Value.int IntKind.u64 0)) w = Result.ok (Value.bool true) w ∧ (∀ (m : Nat), Sem.run Sagg.prog (binOp BinOp.quo 31 (Value.int IntKind.u64 ↑lo) (Value.int IntKind.u64 ↑y)) (w.drewN m) = Result.ok (Value.int IntKind.u64 ↑(lo / y)) (w.drewN m)) ∧ (∀ (m : Nat), Sem.run Sagg.prog (binOp BinOp.rem 31 (Value.int IntKind.u64 ↑lo) (Value.int IntKind.u64 ↑y)) (w.drewN m) = Result.ok (Value.int IntKind.u64 ↑(lo % y)) (w.drewN m)) ∧ ∀ (m : Nat), (post36 hi lo y w) (Ending.returned (Value.tuple { toList := [Value.int IntKind.u64 ↑(lo / y), Value.int IntKind.u64 ↑(lo % y)] })) (w.drewN m)) ∧ (0 < hi → Sem.run Sagg.prog (binOp BinOp.eql 31 (Value.int IntKind.u64 ↑hi) (Value.int IntKind.u64 0)) w = Result.ok (Value.bool false) w ∧ (CallOK Sagg.prog 60 { toList := [Value.int IntKind.u64 ↑y] } w fun (C : G36 → Value → World → Prop) => C G36.h2 (Value.int IntKind.i64 ↑s) w) ∧ Sem.run Sagg.prog (convert 3 72 (Value.int IntKind.i64 ↑s)) w = Result.ok (Value.int IntKind.u64 ↑s) w ∧ Sem.run Sagg.prog (binOp BinOp.shl 31 (Value.int IntKind.u64 ↑y) (Value.int IntKind.u64 ↑s)) w = Result.ok (Value.int IntKind.u64 ↑v) w ∧ Sem.run Sagg.prog (binOp BinOp.shr 31 (Value.int IntKind.u64 ↑v) (Value.int IntKind.u64 32)) w = Result.ok (Value.int IntKind.u64 ↑v1) w ∧ Sem.run Sagg.prog (binOp BinOp.and 31 (Value.int IntKind.u64 ↑v) (Value.int IntKind.u64 4294967295)) w = Result.ok (Value.int IntKind.u64 ↑v0) w ∧ Sem.run Sagg.prog (binOp BinOp.shl 31 (Value.int IntKind.u64 ↑hi) (Value.int IntKind.u64 ↑s)) w = Result.ok (Value.int IntKind.u64 ↑(hi * 2 ^ s)) w ∧ Sem.run Sagg.prog (binOp BinOp.sub 72 (Value.int IntKind.u64 64) (Value.int IntKind.u64 ↑s)) w = Result.ok (Value.int IntKind.u64 ↑(64 - s)) w ∧ Sem.run Sagg.prog (binOp BinOp.shr 31 (Value.int IntKind.u64 ↑lo) (Value.int IntKind.u64 ↑(64 - s))) w = Result.ok (Value.int IntKind.u64 ↑(lo / 2 ^ (64 - s))) w ∧ Sem.run Sagg.prog (binOp BinOp.or 31 (Value.int IntKind.u64 ↑(hi * 2 ^ s)) (Value.int IntKind.u64 ↑(lo / 2 ^ (64 - s)))) w = Result.ok (Value.int IntKind.u64 ↑u) w ∧ Sem.run Sagg.prog (binOp BinOp.shl 31 (Value.int IntKind.u64 ↑lo) (Value.int IntKind.u64 ↑s)) w = Result.ok (Value.int IntKind.u64 ↑t) w ∧ Sem.run Sagg.prog (binOp BinOp.shr 31 (Value.int IntKind.u64 ↑t) (Value.int IntKind.u64 32)) w = Result.ok (Value.int IntKind.u64 ↑n1) w ∧ Sem.run Sagg.prog (binOp BinOp.and 31 (Value.int IntKind.u64 ↑t) (Value.int IntKind.u64 4294967295)) w = Result.ok (Value.int IntKind.u64 ↑n0) w ∧ Sem.run Sagg.prog (binOp BinOp.quo 31 (Value.int IntKind.u64 ↑u) (Value.int IntKind.u64 ↑v1)) w = Result.ok (Value.int IntKind.u64 ↑(u / v1)) w ∧ Sem.run Sagg.prog (binOp BinOp.mul 31 (Value.int IntKind.u64 ↑(u / v1)) (Value.int IntKind.u64 ↑v1)) w = Result.ok (Value.int IntKind.u64 ↑(u / v1 * v1)) w ∧ Sem.run Sagg.prog (binOp BinOp.sub 31 (Value.int IntKind.u64 ↑u) (Value.int IntKind.u64 ↑(u / v1 * v1))) w = Result.ok (Value.int IntKind.u64 ↑(u - u / v1 * v1)) w ∧ JoinOK (join36 [15] Q1) G36.h2 w ∧ ((∃ (q : Nat), ∃ (r : Nat), [Value.int IntKind.u64 ↑(u / v1), Value.int IntKind.u64 ↑(u - u / v1 * v1)] = [Value.int IntKind.u64 ↑q, Value.int IntKind.u64 ↑r] ∧ w = w ∧ Trial u n1 v1 v0 q r) ∧ LoopOK (loop36 [15, 16] u n1 v1 v0) G36.h2 w ∧ ∀ (q r : Nat), Trial u n1 v1 v0 q r → (q < 4294967296 → q * v0 ≤ 4294967296 * r + n1 → Sem.run Sagg.prog (binOp BinOp.geq 31 (Value.int IntKind.u64 ↑q) (Value.int IntKind.u64 4294967296)) w = Result.ok (Value.bool false) w ∧ Sem.run Sagg.prog (binOp BinOp.mul 31 (Value.int IntKind.u64 ↑q) (Value.int IntKind.u64 ↑v0)) w = Result.ok (Value.int IntKind.u64 ↑(q * v0)) w ∧ Sem.run Sagg.prog (binOp BinOp.mul 31 (Value.int IntKind.u64 4294967296) (Value.int IntKind.u64 ↑r)) w = Result.ok (Value.int IntKind.u64 ↑(4294967296 * r)) w ∧ Sem.run Sagg.prog (binOp BinOp.add 31 (Value.int IntKind.u64 ↑(4294967296 * r)) (Value.int IntKind.u64 ↑n1)) w = Result.ok (Value.int IntKind.u64 ↑(4294967296 * r + n1)) w ∧ Sem.run Sagg.prog (binOp BinOp.gtr 31 (Value.int IntKind.u64 ↑(q * v0)) (Value.int IntKind.u64 ↑(4294967296 * r + n1))) w = Result.ok (Value.bool false) w ∧ [Value.int IntKind.u64 ↑q] = [Value.int IntKind.u64 ↑Q1] ∧ w = w) ∧ (4294967296 ≤ q → r + v1 < 4294967296 → Sem.run Sagg.prog (binOp BinOp.geq 31 (Value.int IntKind.u64 ↑q) (Value.int IntKind.u64 4294967296)) w = Result.ok (Value.bool true) w ∧ Sem.run Sagg.prog (binOp BinOp.sub 31 (Value.int IntKind.u64 ↑q) (Value.int IntKind.u64 1)) w = Result.ok (Value.int IntKind.u64 ↑(q - 1)) w ∧ Sem.run Sagg.prog (binOp BinOp.add 31 (Value.int IntKind.u64 ↑r) (Value.int IntKind.u64 ↑v1)) w = Result.ok (Value.int IntKind.u64 ↑(r + v1)) w ∧ Sem.run Sagg.prog (binOp BinOp.geq 31 (Value.int IntKind.u64 ↑(r + v1)) (Value.int IntKind.u64 4294967296)) w = Result.ok (Value.bool false) w ∧ (∃ (q_1 : Nat), ∃ (r_1 : Nat), [Value.int IntKind.u64 ↑(q - 1), Value.int IntKind.u64 ↑(r + v1)] = [Value.int IntKind.u64 ↑q_1, Value.int IntKind.u64 ↑r_1] ∧ w = w ∧ Trial u n1 v1 v0 q_1 r_1) ∧ (((q - 1) : Nat) : Int).toNat < ((q : Nat) : Int).toNat) ∧ (4294967296 ≤ q → 4294967296 ≤ r + v1 → Sem.run Sagg.prog (binOp BinOp.geq 31 (Value.int IntKind.u64 ↑q) (Value.int IntKind.u64 4294967296)) w = Result.ok (Value.bool true) w ∧ Sem.run Sagg.prog (binOp BinOp.sub 31 (Value.int IntKind.u64 ↑q) (Value.int IntKind.u64 1)) w = Result.ok (Value.int IntKind.u64 ↑(q - 1)) w ∧ Sem.run Sagg.prog (binOp BinOp.add 31 (Value.int IntKind.u64 ↑r) (Value.int IntKind.u64 ↑v1)) w = Result.ok (Value.int IntKind.u64 ↑(r + v1)) w ∧ Sem.run Sagg.prog (binOp BinOp.geq 31 (Value.int IntKind.u64 ↑(r + v1)) (Value.int IntKind.u64 4294967296)) w = Result.ok (Value.bool true) w ∧ [Value.int IntKind.u64 ↑(q - 1)] = [Value.int IntKind.u64 ↑Q1] ∧ w = w) ∧ (q < 4294967296 → 4294967296 * r + n1 < q * v0 → r + v1 < 4294967296 → Sem.run Sagg.prog (binOp BinOp.geq 31 (Value.int IntKind.u64 ↑q) (Value.int IntKind.u64 4294967296)) w = Result.ok (Value.bool false) w ∧ Sem.run Sagg.prog (binOp BinOp.mul 31 (Value.int IntKind.u64 ↑q) (Value.int IntKind.u64 ↑v0)) w = Result.ok (Value.int IntKind.u64 ↑(q * v0)) w ∧ Sem.run Sagg.prog (binOp BinOp.mul 31 (Value.int IntKind.u64 4294967296) (Value.int IntKind.u64 ↑r)) w = Result.ok (Value.int IntKind.u64 ↑(4294967296 * r)) w ∧ Sem.run Sagg.prog (binOp BinOp.add 31 (Value.int IntKind.u64 ↑(4294967296 * r)) (Value.int IntKind.u64 ↑n1)) w = Result.ok (Value.int IntKind.u64 ↑(4294967296 * r + n1)) w ∧ Sem.run Sagg.prog (binOp BinOp.gtr 31 (Value.int IntKind.u64 ↑(q * v0)) (Value.int IntKind.u64 ↑(4294967296 * r + n1))) w = Result.ok (Value.bool true) w ∧ Sem.run Sagg.prog (binOp BinOp.sub 31 (Value.int IntKind.u64 ↑q) (Value.int IntKind.u64 1)) w = Result.ok (Value.int IntKind.u64 ↑(q - 1)) w ∧ Sem.run Sagg.prog (binOp BinOp.add 31 (Value.int IntKind.u64 ↑r) (Value.int IntKind.u64 ↑v1)) w = Result.ok (Value.int IntKind.u64 ↑(r + v1)) w ∧ Sem.run Sagg.prog (binOp BinOp.geq 31 (Value.int IntKind.u64 ↑(r + v1)) (Value.int IntKind.u64 4294967296)) w = Result.ok (Value.bool false) w ∧ (∃ (q_1 : Nat), ∃ (r_1 : Nat), [Value.int IntKind.u64 ↑(q - 1), Value.int IntKind.u64 ↑(r + v1)] = [Value.int IntKind.u64 ↑q_1, Value.int IntKind.u64 ↑r_1] ∧ w = w ∧ Trial u n1 v1 v0 q_1 r_1) ∧ (((q - 1) : Nat) : Int).toNat < ((q : Nat) : Int).toNat) ∧ (q < 4294967296 → 4294967296 * r + n1 < q * v0 → 4294967296 ≤ r + v1 → Sem.run Sagg.prog (binOp BinOp.geq 31 (Value.int IntKind.u64 ↑q) (Value.int IntKind.u64 4294967296)) w = Result.ok (Value.bool false) w ∧ Sem.run Sagg.prog (binOp BinOp.mul 31 (Value.int IntKind.u64 ↑q) (Value.int IntKind.u64 ↑v0)) w = Result.ok (Value.int IntKind.u64 ↑(q * v0)) w ∧ Sem.run Sagg.prog (binOp BinOp.mul 31 (Value.int IntKind.u64 4294967296) (Value.int IntKind.u64 ↑r)) w = Result.ok (Value.int IntKind.u64 ↑(4294967296 * r)) w ∧ Sem.run Sagg.prog (binOp BinOp.add 31 (Value.int IntKind.u64 ↑(4294967296 * r)) (Value.int IntKind.u64 ↑n1)) w = Result.ok (Value.int IntKind.u64 ↑(4294967296 * r + n1)) w ∧ Sem.run Sagg.prog (binOp BinOp.gtr 31 (Value.int IntKind.u64 ↑(q * v0)) (Value.int IntKind.u64 ↑(4294967296 * r + n1))) w = Result.ok (Value.bool true) w ∧ Sem.run Sagg.prog (binOp BinOp.sub 31 (Value.int IntKind.u64 ↑q) (Value.int IntKind.u64 1)) w = Result.ok (Value.int IntKind.u64 ↑(q - 1)) w ∧ Sem.run Sagg.prog (binOp BinOp.add 31 (Value.int IntKind.u64 ↑r) (Value.int IntKind.u64 ↑v1)) w = Result.ok (Value.int IntKind.u64 ↑(r + v1)) w ∧ Sem.run Sagg.prog (binOp BinOp.geq 31 (Value.int IntKind.u64 ↑(r + v1)) (Value.int IntKind.u64 4294967296)) w = Result.ok (Value.bool true) w ∧ [Value.int IntKind.u64 ↑(q - 1)] = [Value.int IntKind.u64 ↑Q1] ∧ w = w)) ∧ Sem.run Sagg.prog (binOp BinOp.mul 31 (Value.int IntKind.u64 ↑u) (Value.int IntKind.u64 4294967296)) w = Result.ok (Value.int IntKind.u64 ↑(u * 4294967296 % 18446744073709551616)) w ∧ Sem.run Sagg.prog (binOp BinOp.add 31 (Value.int IntKind.u64 ↑(u * 4294967296 % 18446744073709551616)) (Value.int IntKind.u64 ↑n1)) w = Result.ok (Value.int IntKind.u64 ↑((u * 4294967296 % 18446744073709551616 + n1) % 18446744073709551616)) w ∧ Sem.run Sagg.prog (binOp BinOp.mul 31 (Value.int IntKind.u64 ↑Q1) (Value.int IntKind.u64 ↑v)) w = Result.ok (Value.int IntKind.u64 ↑(Q1 * v % 18446744073709551616)) w ∧ Sem.run Sagg.prog (binOp BinOp.sub 31 (Value.int IntKind.u64 ↑((u * 4294967296 % 18446744073709551616 + n1) % 18446744073709551616)) (Value.int IntKind.u64 ↑(Q1 * v % 18446744073709551616))) w = Result.ok (Value.int IntKind.u64 ↑R1) w ∧ Sem.run Sagg.prog (binOp BinOp.quo 31 (Value.int IntKind.u64 ↑R1) (Value.int IntKind.u64 ↑v1)) w = Result.ok (Value.int IntKind.u64 ↑(R1 / v1)) w ∧ Sem.run Sagg.prog (binOp BinOp.mul 31 (Value.int IntKind.u64 ↑(R1 / v1)) (Value.int IntKind.u64 ↑v1)) w = Result.ok (Value.int IntKind.u64 ↑(R1 / v1 * v1)) w ∧ Sem.run Sagg.prog (binOp BinOp.sub 31 (Value.int IntKind.u64 ↑R1) (Value.int IntKind.u64 ↑(R1 / v1 * v1))) w = Result.ok (Value.int IntKind.u64 ↑(R1 - R1 / v1 * v1)) w ∧ JoinOK (join36 [18] Q0) G36.h2 w ∧ ((∃ (q : Nat), ∃ (r : Nat), [Value.int IntKind.u64 ↑(R1 / v1), Value.int IntKind.u64 ↑(R1 - R1 / v1 * v1)] = [Value.int IntKind.u64 ↑q, Value.int IntKind.u64 ↑r] ∧ w = w ∧ Trial R1 n0 v1 v0 q r) ∧ LoopOK (loop36 [18, 16] R1 n0 v1 v0) G36.h2 w ∧ ∀ (q r : Nat), Trial R1 n0 v1 v0 q r → (q < 4294967296 → q * v0 ≤ 4294967296 * r + n0 → Sem.run Sagg.prog (binOp BinOp.geq 31 (Value.int IntKind.u64 ↑q) (Value.int IntKind.u64 4294967296)) w = Result.ok (Value.bool false) w ∧ Sem.run Sagg.prog (binOp BinOp.mul 31 (Value.int IntKind.u64 ↑q) (Value.int IntKind.u64 ↑v0)) w = Result.ok (Value.int IntKind.u64 ↑(q * v0)) w ∧ Sem.run Sagg.prog (binOp BinOp.mul 31 (Value.int IntKind.u64 4294967296) (Value.int IntKind.u64 ↑r)) w = Result.ok (Value.int IntKind.u64 ↑(4294967296 * r)) w ∧ Sem.run Sagg.prog (binOp BinOp.add 31 (Value.int IntKind.u64 ↑(4294967296 * r)) (Value.int IntKind.u64 ↑n0)) w = Result.ok (Value.int IntKind.u64 ↑(4294967296 * r + n0)) w ∧ Sem.run Sagg.prog (binOp BinOp.gtr 31 (Value.int IntKind.u64 ↑(q * v0)) (Value.int IntKind.u64 ↑(4294967296 * r + n0))) w = Result.ok (Value.bool false) w ∧ [Value.int IntKind.u64 ↑q] = [Value.int IntKind.u64 ↑Q0] ∧ w = w) ∧ (4294967296 ≤ q → r + v1 < 4294967296 → Sem.run Sagg.prog (binOp BinOp.geq 31 (Value.int IntKind.u64 ↑q) (Value.int IntKind.u64 4294967296)) w = Result.ok (Value.bool true) w ∧ Sem.run Sagg.prog (binOp BinOp.sub 31 (Value.int IntKind.u64 ↑q) (Value.int IntKind.u64 1)) w = Result.ok (Value.int IntKind.u64 ↑(q - 1)) w ∧ Sem.run Sagg.prog (binOp BinOp.add 31 (Value.int IntKind.u64 ↑r) (Value.int IntKind.u64 ↑v1)) w = Result.ok (Value.int IntKind.u64 ↑(r + v1)) w ∧ Sem.run Sagg.prog (binOp BinOp.geq 31 (Value.int IntKind.u64 ↑(r + v1)) (Value.int IntKind.u64 4294967296)) w = Result.ok (Value.bool false) w ∧ (∃ (q_1 : Nat), ∃ (r_1 : Nat), [Value.int IntKind.u64 ↑(q - 1), Value.int IntKind.u64 ↑(r + v1)] = [Value.int IntKind.u64 ↑q_1, Value.int IntKind.u64 ↑r_1] ∧ w = w ∧ Trial R1 n0 v1 v0 q_1 r_1) ∧ (((q - 1) : Nat) : Int).toNat < ((q : Nat) : Int).toNat) ∧ (4294967296 ≤ q → 4294967296 ≤ r + v1 → Sem.run Sagg.prog (binOp BinOp.geq 31 (Value.int IntKind.u64 ↑q) (Value.int IntKind.u64 4294967296)) w = Result.ok (Value.bool true) w ∧ Sem.run Sagg.prog (binOp BinOp.sub 31 (Value.int IntKind.u64 ↑q) (Value.int IntKind.u64 1)) w = Result.ok (Value.int IntKind.u64 ↑(q - 1)) w ∧ Sem.run Sagg.prog (binOp BinOp.add 31 (Value.int IntKind.u64 ↑r) (Value.int IntKind.u64 ↑v1)) w = Result.ok (Value.int IntKind.u64 ↑(r + v1)) w ∧ Sem.run Sagg.prog (binOp BinOp.geq 31 (Value.int IntKind.u64 ↑(r + v1)) (Value.int IntKind.u64 4294967296)) w = Result.ok (Value.bool true) w ∧ [Value.int IntKind.u64 ↑(q - 1)] = [Value.int IntKind.u64 ↑Q0] ∧ w = w) ∧ (q < 4294967296 → 4294967296 * r + n0 < q * v0 → r + v1 < 4294967296 → Sem.run Sagg.prog (binOp BinOp.geq 31 (Value.int IntKind.u64 ↑q) (Value.int IntKind.u64 4294967296)) w = Result.ok (Value.bool false) w ∧ Sem.run Sagg.prog (binOp BinOp.mul 31 (Value.int IntKind.u64 ↑q) (Value.int IntKind.u64 ↑v0)) w = Result.ok (Value.int IntKind.u64 ↑(q * v0)) w ∧ Sem.run Sagg.prog (binOp BinOp.mul 31 (Value.int IntKind.u64 4294967296) (Value.int IntKind.u64 ↑r)) w = Result.ok (Value.int IntKind.u64 ↑(4294967296 * r)) w ∧ Sem.run Sagg.prog (binOp BinOp.add 31 (Value.int IntKind.u64 ↑(4294967296 * r)) (Value.int IntKind.u64 ↑n0)) w = Result.ok (Value.int IntKind.u64 ↑(4294967296 * r + n0)) w ∧ Sem.run Sagg.prog (binOp BinOp.gtr 31 (Value.int IntKind.u64 ↑(q * v0)) (Value.int IntKind.u64 ↑(4294967296 * r + n0))) w = Result.ok (Value.bool true) w ∧ Sem.run Sagg.prog (binOp BinOp.sub 31 (Value.int IntKind.u64 ↑q) (Value.int IntKind.u64 1)) w = Result.ok (Value.int IntKind.u64 ↑(q - 1)) w ∧ Sem.run Sagg.prog (binOp BinOp.add 31 (Value.int IntKind.u64 ↑r) (Value.int IntKind.u64 ↑v1)) w = Result.ok (Value.int IntKind.u64 ↑(r + v1)) w ∧ Sem.run Sagg.prog (binOp BinOp.geq 31 (Value.int IntKind.u64 ↑(r + v1)) (Value.int IntKind.u64 4294967296)) w = Result.ok (Value.bool false) w ∧ (∃ (q_1 : Nat), ∃ (r_1 : Nat), [Value.int IntKind.u64 ↑(q - 1), Value.int IntKind.u64 ↑(r + v1)] = [Value.int IntKind.u64 ↑q_1, Value.int IntKind.u64 ↑r_1] ∧ w = w ∧ Trial R1 n0 v1 v0 q_1 r_1) ∧ (((q - 1) : Nat) : Int).toNat < ((q : Nat) : Int).toNat) ∧ (q < 4294967296 → 4294967296 * r + n0 < q * v0 → 4294967296 ≤ r + v1 → Sem.run Sagg.prog (binOp BinOp.geq 31 (Value.int IntKind.u64 ↑q) (Value.int IntKind.u64 4294967296)) w = Result.ok (Value.bool false) w ∧ Sem.run Sagg.prog (binOp BinOp.mul 31 (Value.int IntKind.u64 ↑q) (Value.int IntKind.u64 ↑v0)) w = Result.ok (Value.int IntKind.u64 ↑(q * v0)) w ∧ Sem.run Sagg.prog (binOp BinOp.mul 31 (Value.int IntKind.u64 4294967296) (Value.int IntKind.u64 ↑r)) w = Result.ok (Value.int IntKind.u64 ↑(4294967296 * r)) w ∧ Sem.run Sagg.prog (binOp BinOp.add 31 (Value.int IntKind.u64 ↑(4294967296 * r)) (Value.int IntKind.u64 ↑n0)) w = Result.ok (Value.int IntKind.u64 ↑(4294967296 * r + n0)) w ∧ Sem.run Sagg.prog (binOp BinOp.gtr 31 (Value.int IntKind.u64 ↑(q * v0)) (Value.int IntKind.u64 ↑(4294967296 * r + n0))) w = Result.ok (Value.bool true) w ∧ Sem.run Sagg.prog (binOp BinOp.sub 31 (Value.int IntKind.u64 ↑q) (Value.int IntKind.u64 1)) w = Result.ok (Value.int IntKind.u64 ↑(q - 1)) w ∧ Sem.run Sagg.prog (binOp BinOp.add 31 (Value.int IntKind.u64 ↑r) (Value.int IntKind.u64 ↑v1)) w = Result.ok (Value.int IntKind.u64 ↑(r + v1)) w ∧ Sem.run Sagg.prog (binOp BinOp.geq 31 (Value.int IntKind.u64 ↑(r + v1)) (Value.int IntKind.u64 4294967296)) w = Result.ok (Value.bool true) w ∧ [Value.int IntKind.u64 ↑(q - 1)] = [Value.int IntKind.u64 ↑Q0] ∧ w = w)) ∧ Sem.run Sagg.prog (binOp BinOp.mul 31 (Value.int IntKind.u64 ↑Q1) (Value.int IntKind.u64 4294967296)) w = Result.ok (Value.int IntKind.u64 ↑(Q1 * 4294967296)) w ∧ Sem.run Sagg.prog (binOp BinOp.add 31 (Value.int IntKind.u64 ↑(Q1 * 4294967296)) (Value.int IntKind.u64 ↑Q0)) w = Result.ok (Value.int IntKind.u64 ↑(Q1 * 4294967296 + Q0)) w ∧ Sem.run Sagg.prog (binOp BinOp.mul 31 (Value.int IntKind.u64 ↑R1) (Value.int IntKind.u64 4294967296)) w = Result.ok (Value.int IntKind.u64 ↑(R1 * 4294967296 % 18446744073709551616)) w ∧ Sem.run Sagg.prog (binOp BinOp.add 31 (Value.int IntKind.u64 ↑(R1 * 4294967296 % 18446744073709551616)) (Value.int IntKind.u64 ↑n0)) w = Result.ok (Value.int IntKind.u64 ↑((R1 * 4294967296 % 18446744073709551616 + n0) % 18446744073709551616)) w ∧ Sem.run Sagg.prog (binOp BinOp.mul 31 (Value.int IntKind.u64 ↑Q0) (Value.int IntKind.u64 ↑v)) w = Result.ok (Value.int IntKind.u64 ↑(Q0 * v % 18446744073709551616)) w ∧ Sem.run Sagg.prog (binOp BinOp.sub 31 (Value.int IntKind.u64 ↑((R1 * 4294967296 % 18446744073709551616 + n0) % 18446744073709551616)) (Value.int IntKind.u64 ↑(Q0 * v % 18446744073709551616))) w = Result.ok (Value.int IntKind.u64 ↑R0) w ∧ Sem.run Sagg.prog (binOp BinOp.shr 31 (Value.int IntKind.u64 ↑R0) (Value.int IntKind.u64 ↑s)) w = Result.ok (Value.int IntKind.u64 ↑(R0 / 2 ^ s)) w ∧ (post36 hi lo y w) (Ending.returned (Value.tuple { toList := [Value.int IntKind.u64 ↑(Q1 * 4294967296 + Q0), Value.int IntKind.u64 ↑(R0 / 2 ^ s)] })) w)) (by kernel_rfl) ?_
  exact ⟨(eql_f (by have := d.hy; omega)), (leq_f (by have := d.dlt; omega)), (cut36_ok _ _), (fun h3 => ⟨(eql_t (by omega)), (fun m5 => (quoU d.hy rfl d.dlo)), (fun m7 => (remU d.hy rfl)), (fun m9 => ⟨_, _, rfl, ⟨by rw [show hi = 0 by assumption, Nat.mul_comm, Nat.div_add_mod]; omega, Nat.mod_lt _ d.hy⟩, _, rfl⟩)⟩), (fun h11 => ⟨(eql_f (by omega)), (lead_ok (d.lead w)), (conv_s d.s63), (shlU (by have := d.s63; omega) d.shl_y), (shrU (s := 32) (by omega) d.v1e), (andU (b := 4294967295) d.vM (by omega) d.v0e), (shlU (by have := d.s63; omega) d.shl_hi), (subU (a := 64) (by have := d.s63; omega) rfl (by omega)), (shrU (by omega) rfl), (orU (by have := d.hi_lt; have := d.vM; omega) (by have := d.lo_lt; have := d.s_le; omega) d.or_u), (shlU (by have := d.s63; omega) d.dn.ht), (shrU (s := 32) (by omega) d.n1e), (andU (b := 4294967295) d.tM (by omega) d.n0e), (quoU (by have := d.v1L; omega) rfl (by have := d.du; have := d.vM; omega)), (mulU rfl (by have := div_mul_le' u v1; have := d.du; have := d.vM; omega)), (subU (div_mul_le' _ _) rfl (by have := d.du; have := d.vM; omega)), (join36_ok _ _ _ _), ⟨⟨_, _, rfl, rfl, d.trial1⟩, (loop36_ok _ _ _ _ _ _ _), (fun q31 => (fun r32 => (fun h33 => ⟨(fun h34 => (fun h35 => ⟨(geq_f (by omega)), (mulU rfl (mul_small (by omega) d.v0M)), (mulU (a := 4294967296) rfl (by have := h33.small; omega)), (addU rfl (by have := h33.small; have := d.n1M; omega)), (gtr_f (by omega)), (one_eq ((trial_end h33 (by have := d.v1L; omega) (by assumption)).trans d.dQ1.symm)), rfl⟩)), (fun h43 => (fun h44 => ⟨(geq_t (by omega)), (subU (b := 1) (by first | omega | exact pos_over (by assumption)) rfl (by have := h33.top; omega)), (addU rfl (by have := h33.small; have := d.v1M; omega)), (geq_f (by omega)), ⟨_, _, rfl, rfl, trial_next h33 (by first | exact trial_big h33 d.u' d.n1M (by omega) | exact trial_over h33 (by have := d.v1L; omega) (by assumption)) (by first | omega | exact pos_over (by assumption)) (by omega)⟩, (mu_lt (by first | omega | exact pos_over (by assumption)))⟩)), (fun h51 => (fun h52 => ⟨(geq_t (by omega)), (subU (b := 1) (by first | omega | exact pos_over (by assumption)) rfl (by have := h33.top; omega)), (addU rfl (by have := h33.small; have := d.v1M; omega)), (geq_t (by omega)), (one_eq ((trial_break h33 (by have := d.v1L; omega) d.v0M (by first | exact trial_big h33 d.u' d.n1M (by omega) | exact trial_over h33 (by have := d.v1L; omega) (by assumption)) (by first | omega | exact pos_over (by assumption)) (by omega)).trans d.dQ1.symm)), rfl⟩)), (fun h59 => (fun h60 => (fun h61 => ⟨(geq_f (by omega)), (mulU rfl (mul_small (by omega) d.v0M)), (mulU (a := 4294967296) rfl (by have := h33.small; omega)), (addU rfl (by have := h33.small; have := d.n1M; omega)), (gtr_t (by omega)), (subU (b := 1) (by first | omega | exact pos_over (by assumption)) rfl (by have := h33.top; omega)), (addU rfl (by have := h33.small; have := d.v1M; omega)), (geq_f (by omega)), ⟨_, _, rfl, rfl, trial_next h33 (by first | exact trial_big h33 d.u' d.n1M (by omega) | exact trial_over h33 (by have := d.v1L; omega) (by assumption)) (by first | omega | exact pos_over (by assumption)) (by omega)⟩, (mu_lt (by first | omega | exact pos_over (by assumption)))⟩))), (fun h72 => (fun h73 => (fun h74 => ⟨(geq_f (by omega)), (mulU rfl (mul_small (by omega) d.v0M)), (mulU (a := 4294967296) rfl (by have := h33.small; omega)), (addU rfl (by have := h33.small; have := d.n1M; omega)), (gtr_t (by omega)), (subU (b := 1) (by first | omega | exact pos_over (by assumption)) rfl (by have := h33.top; omega)), (addU rfl (by have := h33.small; have := d.v1M; omega)), (geq_t (by omega)), (one_eq ((trial_break h33 (by have := d.v1L; omega) d.v0M (by first | exact trial_big h33 d.u' d.n1M (by omega) | exact trial_over h33 (by have := d.v1L; omega) (by assumption)) (by first | omega | exact pos_over (by assumption)) (by omega)).trans d.dQ1.symm)), rfl⟩)))⟩)))⟩, (mulM (b := 4294967296) rfl), (addM rfl), (mulM rfl), (subM (rem_wrap d.dR1 (by have := d.R1M; have := d.vM; omega))), (quoU (by have := d.v1L; omega) rfl (by have := d.R1M; have := d.vM; omega)), (mulU rfl (by have := div_mul_le' R1 v1; have := d.R1M; have := d.vM; omega)), (subU (div_mul_le' _ _) rfl (by have := d.R1M; have := d.vM; omega)), (join36_ok _ _ _ _), ⟨⟨_, _, rfl, rfl, d.trial0⟩, (loop36_ok _ _ _ _ _ _ _), (fun q95 => (fun r96 => (fun h97 => ⟨(fun h98 => (fun h99 => ⟨(geq_f (by omega)), (mulU rfl (mul_small (by omega) d.v0M)), (mulU (a := 4294967296) rfl (by have := h97.small; omega)), (addU rfl (by have := h97.small; have := d.n0M; omega)), (gtr_f (by omega)), (one_eq ((trial_end h97 (by have := d.v1L; omega) (by assumption)).trans d.dQ0.symm)), rfl⟩)), (fun h107 => (fun h108 => ⟨(geq_t (by omega)), (subU (b := 1) (by first | omega | exact pos_over (by assumption)) rfl (by have := h97.top; omega)), (addU rfl (by have := h97.small; have := d.v1M; omega)), (geq_f (by omega)), ⟨_, _, rfl, rfl, trial_next h97 (by first | exact trial_big h97 d.R1' d.n0M (by omega) | exact trial_over h97 (by have := d.v1L; omega) (by assumption)) (by first | omega | exact pos_over (by assumption)) (by omega)⟩, (mu_lt (by first | omega | exact pos_over (by assumption)))⟩)), (fun h115 => (fun h116 => ⟨(geq_t (by omega)), (subU (b := 1) (by first | omega | exact pos_over (by assumption)) rfl (by have := h97.top; omega)), (addU rfl (by have := h97.small; have := d.v1M; omega)), (geq_t (by omega)), (one_eq ((trial_break h97 (by have := d.v1L; omega) d.v0M (by first | exact trial_big h97 d.R1' d.n0M (by omega) | exact trial_over h97 (by have := d.v1L; omega) (by assumption)) (by first | omega | exact pos_over (by assumption)) (by omega)).trans d.dQ0.symm)), rfl⟩)), (fun h123 => (fun h124 => (fun h125 => ⟨(geq_f (by omega)), (mulU rfl (mul_small (by omega) d.v0M)), (mulU (a := 4294967296) rfl (by have := h97.small; omega)), (addU rfl (by have := h97.small; have := d.n0M; omega)), (gtr_t (by omega)), (subU (b := 1) (by first | omega | exact pos_over (by assumption)) rfl (by have := h97.top; omega)), (addU rfl (by have := h97.small; have := d.v1M; omega)), (geq_f (by omega)), ⟨_, _, rfl, rfl, trial_next h97 (by first | exact trial_big h97 d.R1' d.n0M (by omega) | exact trial_over h97 (by have := d.v1L; omega) (by assumption)) (by first | omega | exact pos_over (by assumption)) (by omega)⟩, (mu_lt (by first | omega | exact pos_over (by assumption)))⟩))), (fun h136 => (fun h137 => (fun h138 => ⟨(geq_f (by omega)), (mulU rfl (mul_small (by omega) d.v0M)), (mulU (a := 4294967296) rfl (by have := h97.small; omega)), (addU rfl (by have := h97.small; have := d.n0M; omega)), (gtr_t (by omega)), (subU (b := 1) (by first | omega | exact pos_over (by assumption)) rfl (by have := h97.top; omega)), (addU rfl (by have := h97.small; have := d.v1M; omega)), (geq_t (by omega)), (one_eq ((trial_break h97 (by have := d.v1L; omega) d.v0M (by first | exact trial_big h97 d.R1' d.n0M (by omega) | exact trial_over h97 (by have := d.v1L; omega) (by assumption)) (by first | omega | exact pos_over (by assumption)) (by omega)).trans d.dQ0.symm)), rfl⟩)))⟩)))⟩, (mulU (b := 4294967296) rfl (by have := d.Q1M; omega)), (addU rfl (by have := d.Q1M; have := d.Q0M; omega)), (mulM (b := 4294967296) rfl), (addM rfl), (mulM rfl), (subM (rem_wrap d.dR0 (by have := d.R0M; have := d.vM; omega))), (shrU (by have := d.s63; omega) rfl), ⟨_, _, rfl, d.ans, 0, rfl⟩⟩)⟩

theorem bitsDiv64_calls (hi lo y : Nat) (w : World) (hlt : hi < y) (hy : y < 18446744073709551616) (hlo : lo < 18446744073709551616) :
    Calls Sagg.prog 36 #[.int .u64 (hi : Int), .int .u64 (lo : Int), .int .u64 (y : Int)] w fun e w' => ∃ q r : Nat, e = .returned (.tuple #[.int .u64 (q : Nat), .int .u64 (r : Nat)]) ∧ (q * y + r = hi * 18446744073709551616 + lo ∧ r < y) ∧ ∃ n, w' = w.drewN n := by
  obtain ⟨s, v, v1, v0, u, t, n1, n0, Q1, R1, Q0, R0, d⟩ := d36_exists hlt hy hlo
  exact div64_core hi lo y s v v1 v0 u t n1 n0 Q1 R1 Q0 R0 w d
end Go.Proofs.Ygcsag
