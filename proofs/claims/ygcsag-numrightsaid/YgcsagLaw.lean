/-
  SMALL LAWS FOR WHAT A WALK OWES.
-/
import Derived.Test.YgcsagSameD
import Derived.Test.YgcsagCX
namespace Go.Proofs.Ygcsag
open Go.RowKit
set_option linter.unusedSimpArgs false
set_option linter.unusedVariables false
section
variable {P : Program} {t : TypeId} {k : IntKind} {a b c : Int} {w : World}
theorem lss_t (h : a < b) : (binOp .lss t (.int k a) (.int k b)).run P w = .ok (.bool true) w := by simp [binOp, Op.intCmp, h]
theorem lss_f (h : ¬ a < b) : (binOp .lss t (.int k a) (.int k b)).run P w = .ok (.bool false) w := by simp [binOp, Op.intCmp]; omega
theorem gtr_t (h : a > b) : (binOp .gtr t (.int k a) (.int k b)).run P w = .ok (.bool true) w := by simp [binOp, Op.intCmp, h]
theorem gtr_f (h : ¬ a > b) : (binOp .gtr t (.int k a) (.int k b)).run P w = .ok (.bool false) w := by simp [binOp, Op.intCmp]; omega
theorem leq_t (h : a ≤ b) : (binOp .leq t (.int k a) (.int k b)).run P w = .ok (.bool true) w := by simp [binOp, Op.intCmp, h]
theorem leq_f (h : ¬ a ≤ b) : (binOp .leq t (.int k a) (.int k b)).run P w = .ok (.bool false) w := by simp [binOp, Op.intCmp]; omega
theorem geq_t (h : a ≥ b) : (binOp .geq t (.int k a) (.int k b)).run P w = .ok (.bool true) w := by simp [binOp, Op.intCmp, h]
theorem geq_f (h : ¬ a ≥ b) : (binOp .geq t (.int k a) (.int k b)).run P w = .ok (.bool false) w := by simp [binOp, Op.intCmp]; omega
theorem eql_t (h : a = b) : (binOp .eql t (.int k a) (.int k b)).run P w = .ok (.bool true) w := by simp [binOp, Op.intCmp, h]
theorem eql_f (h : ¬ a = b) : (binOp .eql t (.int k a) (.int k b)).run P w = .ok (.bool false) w := by simp [binOp, Op.intCmp, h]
theorem neq_t (h : ¬ a = b) : (binOp .neq t (.int k a) (.int k b)).run P w = .ok (.bool true) w := by simp [binOp, Op.intCmp, h]
theorem neq_f (h : a = b) : (binOp .neq t (.int k a) (.int k b)).run P w = .ok (.bool false) w := by simp [binOp, Op.intCmp, h]
theorem add_i (h : k.wrap (a + b) = c) : (binOp .add t (.int k a) (.int k b)).run P w = .ok (.int k c) w := by simp [binOp, Op.intArith, h]
theorem sub_i (h : k.wrap (a - b) = c) : (binOp .sub t (.int k a) (.int k b)).run P w = .ok (.int k c) w := by simp [binOp, Op.intArith, h]
theorem mul_i (h : k.wrap (a * b) = c) : (binOp .mul t (.int k a) (.int k b)).run P w = .ok (.int k c) w := by simp [binOp, Op.intArith, h]
theorem wrap64 (h1 : -9223372036854775808 ≤ a) (h2 : a ≤ 9223372036854775807) : IntKind.i64.wrap a = a := by
  simp [IntKind.wrap, IntKind.signed, IntKind.bits]; omega
theorem inc_i {n m : Nat} (h : n < m) (hm : m ≤ 9223372036854775807) : (binOp .add t (.int .i64 n) (.int .i64 1)).run P w = .ok (.int .i64 (n + 1 : Nat)) w := add_i (by rw [wrap64 (by omega) (by omega)]; rfl)

theorem index_slice {e : TypeId} {s : Nat} {sa : Option Addr} {bk o n c i : Nat} (ht : P.underlying t = some (.slice e)) (hs : (P.info? e).map (·.size) = some s) (ha : sa = some ⟨bk, o, none⟩) (hi : i < n) :
    (Instr.indexAt t (.slice sa n c) (.int .i64 i)).run P w = .ok (.pointer (some ⟨bk, o + i * s, none⟩)) w := by
  subst ha
  have h1 : (0 : Int) ≤ (i : Int) ∧ (i : Int) < (n : Int) := by omega
  simp [Instr.indexAt, asIntOf, run_underlying ht, h1, size_info hs, Addr.add]
  rw [if_pos hi]
  by_cases hz : i * s = 0
  · simp [hz]
  · simp [hz]
end

theorem nqarr_t {t : TypeId} {n : Nat} (ht : Sagg.prog.underlying t = some (.array n 5)) {xs ys : List Int} (hx : xs.length = n) (hy : ys.length = n) (h : xs ≠ ys) {w : World} : (binOp .neq t (.agg (bcells xs).toArray) (.agg (bcells ys).toArray)).run Sagg.prog w = .ok (.bool true) w := by
  rw [neq_arr t n ht xs ys hx hy]; simp [h]
theorem nqarr_f {t : TypeId} {n : Nat} (ht : Sagg.prog.underlying t = some (.array n 5)) {xs ys : List Int} (hx : xs.length = n) (hy : ys.length = n) (h : xs = ys) {w : World} : (binOp .neq t (.agg (bcells xs).toArray) (.agg (bcells ys).toArray)).run Sagg.prog w = .ok (.bool false) w := by
  rw [neq_arr t n ht xs ys hx hy]; simp [h]

theorem run_neq_str {P : Program} {t : TypeId} (x y : ByteArray) (w : World) : (binOp .neq t (.string x) (.string y)).run P w = .ok (.bool (!(x.toList == y.toList))) w := by
  simp [binOp, Op.stringOp]
theorem nqstr_t {xs ys : List Int} (hx : Dig xs) (hy : Dig ys) (h : xs ≠ ys) {w : World} : (binOp .neq 9 (.string (strOfNums xs)) (.string (strOfNums ys))).run Sagg.prog w = .ok (.bool true) w := by
  rw [run_neq_str, eq_dec xs ys hx hy]; simp [h]
theorem nqstr_f {xs ys : List Int} (hx : Dig xs) (hy : Dig ys) (h : xs = ys) {w : World} : (binOp .neq 9 (.string (strOfNums xs)) (.string (strOfNums ys))).run Sagg.prog w = .ok (.bool false) w := by
  rw [run_neq_str, eq_dec xs ys hx hy]; simp [h]


/-- Two structs of two arrays of 32 bytes are equal if their bytes are. -/
theorem run_equalIn_two {P : Program} {t u e : TypeId} {f g : Field} (ht : P.underlying t = some (.struct #[f, g])) (hs : P.stoodInHeld t = false) (hf : f.type = u ∧ f.offset = 0 ∧ f.name ≠ "_") (hg : g.type = u ∧ g.offset = 32 ∧ g.name ≠ "_")
    (hu : P.underlying u = some (.array 32 e)) (he : P.underlying e = some (.int .u8)) (hse : ∀ w, (sizeOf e).run P w = .ok 1 w) (hae : ∀ w, (isAgg e).run P w = .ok false w)
    (ha : ∀ w, (isAgg u).run P w = .ok true w) (hz : ∀ w, (sizeOf u).run P w = .ok 32 w) (d : Nat) (xs ys : List Int) (hx : xs.length = 64) (hy : ys.length = 64) (w : World) :
    (Op.equalIn (d + 3) t (.agg (bcells xs).toArray) (.agg (bcells ys).toArray)).run P w = .ok (decide (xs = ys)) w := by
  have p1 : ∀ zs : List Int, zs.length = 64 → (part u (bcells zs).toArray 0).run P w = .ok (.agg (bcells (zs.take 32)).toArray) w := by
    intro zs hzs
    unfold part
    have e : (bcells zs).toArray.extract 0 (0 + 32) = (bcells (zs.take 32)).toArray := by simp [bcells]
    simp only [Sem.run_bind, ha, hz, Result.andThen_ok, if_true, Sem.run_pure, e]
  have p2 : ∀ zs : List Int, zs.length = 64 → (part u (bcells zs).toArray 32).run P w = .ok (.agg (bcells (zs.drop 32)).toArray) w := by
    intro zs hzs
    unfold part
    have e : (bcells zs).toArray.extract 32 (32 + 32) = (bcells (zs.drop 32)).toArray := by
      simp [bcells]
      rw [List.take_of_length_le (by simp; omega)]
    simp only [Sem.run_bind, ha, hz, Result.andThen_ok, if_true, Sem.run_pure, e]
  have e1 := run_equalIn_bytes w d u e 32 hu he (hse w) (hae w) (xs.take 32) (ys.take 32) (by simp; omega) (by simp; omega)
  have e2 := run_equalIn_bytes w d u e 32 hu he (hse w) (hae w) (xs.drop 32) (ys.drop 32) (by simp; omega) (by simp; omega)
  unfold Op.equalIn
  simp only [Sem.run_bind, run_underlying ht, Result.andThen_ok]
  simp [hs, hf.1, hf.2.1, hf.2.2, hg.1, hg.2.1, hg.2.2, p1 xs hx, p1 ys hy, p2 xs hx, p2 ys hy, e1, e2]
  by_cases h1 : xs.take 32 = ys.take 32
  · by_cases h2 : xs.drop 32 = ys.drop 32
    · have : xs = ys := by rw [← List.take_append_drop 32 xs, h1, h2, List.take_append_drop]
      simp [this]
    · have : xs ≠ ys := fun e => h2 (by rw [e])
      simp [h1, h2, this]
  · have : xs ≠ ys := fun e => h1 (by rw [e])
    simp [h1, this]

theorem run_neq_two {P : Program} {t : TypeId} {xs ys : List Int} {w : World} (h : ∀ d, (Op.equalIn (d + 3) t (.agg (bcells xs).toArray) (.agg (bcells ys).toArray)).run P w = .ok (decide (xs = ys)) w) :
    (binOp .neq t (.agg (bcells xs).toArray) (.agg (bcells ys).toArray)).run P w = .ok (.bool (!decide (xs = ys))) w := by
  rw [run_neq_struct, h 9997]
  rfl

theorem hs108 : Sagg.prog.stoodInHeld 108 = false := by kernel_rfl
theorem ha60 (w : World) : (isAgg 60).run Sagg.prog w = .ok true w := by kernel_rfl
theorem hz60 (w : World) : (sizeOf 60).run Sagg.prog w = .ok 32 w := by kernel_rfl
theorem neq_slot (xs ys : List Int) (hx : xs.length = 64) (hy : ys.length = 64) (w : World) :
    (binOp .neq 108 (.agg (bcells xs).toArray) (.agg (bcells ys).toArray)).run Sagg.prog w = .ok (.bool (!decide (xs = ys))) w :=
  run_neq_two fun d => run_equalIn_two Sagg.underlying108 hs108 ⟨rfl, rfl, by decide⟩ ⟨rfl, rfl, by decide⟩ Sagg.underlying60 Sagg.underlying5 size5' agg5' ha60 hz60 d xs ys hx hy w
theorem nqslot_t {xs ys : List Int} (hx : xs.length = 64) (hy : ys.length = 64) (h : xs ≠ ys) {w : World} : (binOp .neq 108 (.agg (bcells xs).toArray) (.agg (bcells ys).toArray)).run Sagg.prog w = .ok (.bool true) w := by
  rw [neq_slot xs ys hx hy]; simp [h]
theorem nqslot_f {xs ys : List Int} (hx : xs.length = 64) (hy : ys.length = 64) (h : xs = ys) {w : World} : (binOp .neq 108 (.agg (bcells xs).toArray) (.agg (bcells ys).toArray)).run Sagg.prog w = .ok (.bool false) w := by
  rw [neq_slot xs ys hx hy]; simp [h]
end Go.Proofs.Ygcsag
