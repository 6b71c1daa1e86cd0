/-
  'DepositRight': specs, words and laws that its runs share.
-/
import Derived.Test.YgcsagGreatUq
import Derived.Test.YgcsagGreatUoh
namespace Go.Proofs.EX
open Go.RowKit Go.Proofs.YgcsagGreat
set_option linter.unusedVariables false
set_option linter.unusedSimpArgs false
/-- A row of one byte and zeros. -/
def rowF (first : Int) (k : Nat) : List Value := .int .u8 first :: zeroB k
noncomputable def depSpecs (first : Int) (k : Nat) : List (FuncId × Spec) := (110, normX) :: (103, sumX hashTab) :: (50, rowCX) :: (101, u64X) :: (136, selX cutX (reX (k + 1) (rowF first k) cutX)) :: (23, selX equalX eqWX) :: natSpecs2
noncomputable def depSpecsG (first : Int) (k : Nat) : List (FuncId × Spec) := (87, growX) :: depSpecs first k
theorem depSpecs_ok {first : Int} {k : Nat} : ∀ p ∈ depSpecs first k, SpecOK p.1 p.2 := by
  unfold depSpecs
  simp only [List.forall_mem_cons]
  exact ⟨normX_ok, sumX_ok hashTab_ok, copy50_ok, u64X_ok, selX_ok cutX_ok (reX_ok cutX_ok), selX_ok equalX_ok eqWX_ok, natSpecs2_ok⟩
theorem depSpecsG_ok {first : Int} {k : Nat} : ∀ p ∈ depSpecsG first k, SpecOK p.1 p.2 := by
  unfold depSpecsG
  simp only [List.forall_mem_cons]
  exact ⟨growX_ok, depSpecs_ok⟩
/-! ### Numbers -/
def nn (hi lo : Int) : Int := beV [hi, lo]
theorem nn_eq (hi lo : Int) : nn hi lo = 256 * hi + lo := by
  unfold nn
  simp [beV]
  omega
def ww (hi lo : Int) : Int := ((0 + (nn hi lo)) + 31) / 32
theorem ww_eq (hi lo : Int) : ww hi lo = (256 * hi + lo + 31) / 32 := by
  unfold ww
  rw [nn_eq, Int.zero_add]
def mc (hi lo : Int) : Int := (3 * (ww hi lo)) + (((ww hi lo) * (ww hi lo)) / 512)
def kw (k : Nat) : Int := IntKind.wrap .u64 (Int.ofNat (k + 1))
theorem kw_eq {k : Nat} (h : k ≤ 70000) : kw k = (k : Int) + 1 := by
  unfold kw
  have e : Int.ofNat (k + 1) = (k : Int) + 1 := rfl
  rw [e]
  exact wrap_u (by omega) (by omega)
def ggD (gas : Int) : Int := Int.tmod (IntKind.wrap .u64 gas) 1048577
theorem ggD_range {gas : Int} (h : 0 ≤ gas ∧ gas < 4294967296) : 0 ≤ ggD gas ∧ ggD gas ≤ 1048576 := by
  unfold ggD
  rw [wrap_u (by omega) (by omega), Int.tmod_eq_emod_of_nonneg h.1]
  omega
def hiD (n : Int) : Int := IntKind.wrap .u8 (Int.fdiv n (2 ^ 8))
def loD (n : Int) : Int := IntKind.wrap .u8 n
theorem hiD_eq {n : Int} (h : 0 ≤ n ∧ n < 65536) : hiD n = n / 256 := by
  unfold hiD
  rw [Int.fdiv_eq_ediv_of_nonneg _ (by decide)]
  have e : (2 ^ 8 : Int) = 256 := by decide
  rw [e]
  simp [IntKind.wrap, IntKind.bits, IntKind.signed]
  omega
theorem loD_eq {n : Int} (h : 0 ≤ n ∧ n < 65536) : loD n = n % 256 := by
  unfold loD
  simp [IntKind.wrap, IntKind.bits, IntKind.signed]
def wD (x : Int) : Int := IntKind.wrap .u64 (Int.tdiv (IntKind.wrap .u64 (x + 31)) 32)
theorem wD_eq {x : Int} (h : 0 ≤ x ∧ x ≤ 70000) : wD x = (x + 31) / 32 := by
  unfold wD
  rw [wrap_u (a := x + 31) (by omega) (by omega), Int.tdiv_eq_ediv_of_nonneg (by omega), wrap_u (by omega) (by omega)]
def rD (w : Int) : Int := IntKind.wrap .u64 (13 + (IntKind.wrap .u64 ((IntKind.wrap .u64 (3 * w)) + (IntKind.wrap .u64 (Int.tdiv (IntKind.wrap .u64 (w * w)) 512)))))
theorem sq_bound {w : Int} (h : 0 ≤ w ∧ w ≤ 3000) : 0 ≤ w * w ∧ w * w ≤ 3000 * 3000 := ⟨Int.mul_nonneg h.1 h.1, Int.mul_le_mul h.2 h.2 h.1 (by omega)⟩
theorem rD_eq {w : Int} (h : 0 ≤ w ∧ w ≤ 3000) : rD w = 13 + (3 * w + w * w / 512) := by
  unfold rD
  have h2 := sq_bound h
  generalize w * w = q at *
  rw [wrap_u (a := 3 * w) (by omega) (by omega), wrap_u (a := q) (by omega) (by omega), Int.tdiv_eq_ediv_of_nonneg (by omega), wrap_u (a := q / 512) (by omega) (by omega), wrap_u (a := 3 * w + q / 512) (by omega) (by omega), wrap_u (by omega) (by omega)]
/-! ### What is told -/
theorem told_ls1 {t : TypeId} {k : IntKind} {a b : Int} (h : a < b) : Told Sagg.prog .lss t (.int k a) (.int k b) (toldV 1 0) := by
  refine told_fast ?_
  unfold fastB
  rw [Nat.beq_refl]
  show some (Value.bool (ltB a b)) = some (.bool true)
  rw [ltB_eq, decide_eq_true h]
theorem told_ls0 {t : TypeId} {k : IntKind} {a b : Int} (h : b ≤ a) : Told Sagg.prog .lss t (.int k a) (.int k b) (toldV 0 0) := by
  refine told_fast ?_
  unfold fastB
  rw [Nat.beq_refl]
  show some (Value.bool (ltB a b)) = some (.bool false)
  rw [ltB_eq, decide_eq_false (by omega)]
theorem told_ne1 {t : TypeId} {k : IntKind} {a b : Int} (h : a ≠ b) : Told Sagg.prog .neq t (.int k a) (.int k b) (toldV 1 0) := by
  refine told_fast ?_
  unfold fastB
  rw [Nat.beq_refl]
  show some (Value.bool (not (eqB a b))) = some (.bool true)
  rw [eqB_eq, decide_eq_false h]
  rfl
theorem told_eq1 {t : TypeId} {k : IntKind} {a b : Int} (h : a = b) : Told Sagg.prog .eql t (.int k a) (.int k b) (toldV 1 0) := by
  refine told_fast ?_
  unfold fastB
  rw [Nat.beq_refl]
  show some (Value.bool (eqB a b)) = some (.bool true)
  rw [eqB_eq, decide_eq_true h]
theorem told_eq0 {t : TypeId} {k : IntKind} {a b : Int} (h : a ≠ b) : Told Sagg.prog .eql t (.int k a) (.int k b) (toldV 0 0) := by
  refine told_fast ?_
  unfold fastB
  rw [Nat.beq_refl]
  show some (Value.bool (eqB a b)) = some (.bool false)
  rw [eqB_eq, decide_eq_false h]
theorem told_quo {x : Int} (h : 1 ≤ x ∧ x ≤ 32) (y : Int) (hy : y = x) : Told Sagg.prog .quo 27 (.int .u64 (IntKind.wrap .u64 (y + 31))) (.int .u64 32) (toldV 4 1) := by
  subst hy
  intro p q w
  have e : IntKind.wrap .u64 (Int.tdiv (IntKind.wrap .u64 (y + 31)) 32) = 1 := by
    have := wD_eq (x := y) (by omega)
    unfold wD at this
    rw [this]
    omega
  have hg : (eqGuard .quo 27 p q (.int .u64 (IntKind.wrap .u64 (y + 31))) (.int .u64 32)).run Sagg.prog w = .ok () w := by
    unfold eqGuard
    simp
  rw [Sem.run_bind, hg]
  show (binOp .quo 27 (.int .u64 (IntKind.wrap .u64 (y + 31))) (.int .u64 32)).run Sagg.prog w = _
  simp only [binOp, Op.intArith, Op.intDiv, e]
  simp [toldV]
theorem cmp_le0 {a b : Int} (h : a ≤ b) : cmpX a b ≤ 0 := by
  rcases (by omega : a < b ∨ a = b) with h | h
  · rw [cmp_lt h]; omega
  · rw [cmp_eq0 h]; omega
theorem cmp_gt0 {a b : Int} (h : b < a) : 0 < cmpX a b := by rw [cmp_gt h]; omega
theorem cmp_lt0 {a b : Int} (h : a < b) : cmpX a b < 0 := by rw [cmp_lt h]; omega
theorem cmp_ge0 {a b : Int} (h : b ≤ a) : 0 ≤ cmpX a b := by
  rcases (by omega : b < a ∨ a = b) with h | h
  · rw [cmp_gt h]; omega
  · rw [cmp_eq0 h]; omega
/-! ### Rows -/
def memI (first : Int) : List Int := [(dig ((beV [first])) 0), 0, 0, 0, 0, 0, 0, 0, 0, 0, 0, 0, 0, 0, 0, 0, 0, 0, 0, 0, 0, 0, 0, 0, 0, 0, 0, 0, 0, 0, 0, 0]
def memR (first : Int) : List Value := [.int .u8 (dig ((beV [first])) 0), .int .u8 0, .int .u8 0, .int .u8 0, .int .u8 0, .int .u8 0, .int .u8 0, .int .u8 0, .int .u8 0, .int .u8 0, .int .u8 0, .int .u8 0, .int .u8 0, .int .u8 0, .int .u8 0, .int .u8 0, .int .u8 0, .int .u8 0, .int .u8 0, .int .u8 0, .int .u8 0, .int .u8 0, .int .u8 0, .int .u8 0, .int .u8 0, .int .u8 0, .int .u8 0, .int .u8 0, .int .u8 0, .int .u8 0, .int .u8 0, .int .u8 0]
theorem memR_b (first : Int) : memR first = bcells (memI first) := rfl
theorem dig_first {first : Int} (h : 0 ≤ first ∧ first < 256) : dig (beV [first]) 0 = first := by
  unfold dig
  rw [beV_1]
  simp
  omega
theorem memI_dig {first : Int} (h : 0 ≤ first ∧ first < 256) : Dig (memI first) := by
  intro x hx
  unfold memI at hx
  rw [dig_first h] at hx
  simp only [List.mem_cons, List.not_mem_nil, or_false] at hx
  omega
theorem cell_mem {first : Int} (h : 0 ≤ first ∧ first < 256) (i : Nat) : cellI (memR first) i = if i = 0 then first else 0 := by
  rw [memR_b, cellI_b]
  cases i with
  | zero => exact dig_first h
  | succ i =>
    rw [if_neg (by omega)]
    have e : memI first = dig (beV [first]) 0 :: List.replicate 31 0 := rfl
    rw [e, List.getD_cons_succ]
    rw [List.getD_eq_getElem?_getD, List.getElem?_replicate]
    split <;> rfl
theorem rowF_b (first : Int) (k : Nat) : rowF first k = bcells (first :: List.replicate k 0) := by
  unfold rowF zeroB bcells
  rw [List.map_cons, List.map_replicate]
theorem rowFact_F {first : Int} {k : Nat} (h : 0 ≤ first ∧ first < 256) (hk : k ≤ 70000) : RowFact (k + 1) (rowF first k).toArray := by
  refine ⟨first :: List.replicate k 0, by rw [rowF_b], by simp, by omega, fun x hx => ?_⟩
  rcases List.mem_cons.1 hx with rfl | hx
  · exact h
  · rw [List.mem_replicate] at hx
    omega
theorem cells_F {cs : List Value} {first : Int} {k : Nat} (h : ∀ i, i < k + 1 → cellI cs i = if i = 0 then first else 0) : cutV cs 0 (k + 1) = rowF first k := by
  unfold cutV
  apply List.ext_getElem?
  intro i
  by_cases hi : i < k + 1
  · rw [List.getElem?_map, List.getElem?_range hi, Option.map_some, Nat.zero_add, h i hi]
    unfold rowF zeroB
    cases i with
    | zero => rfl
    | succ i =>
      rw [if_neg (by omega), List.getElem?_cons_succ, List.getElem?_replicate, if_pos (by omega)]
  · rw [List.getElem?_eq_none (by simp; omega), List.getElem?_eq_none (by rw [rowF_b, bcells_length]; simp; omega)]
theorem reF1 {first hi lo : Int} {k : Nat} (h : 0 ≤ first ∧ first < 256) (hn : 256 * hi + lo = (k : Int) + 1) :
    Int.toNat (nn hi lo) = k + 1 ∧ Int.toNat (nn hi lo) = k + 1 ∧ (cutV (memR first) (Int.toNat 0) (Int.toNat (nn hi lo))).toArray = (rowF first k).toArray := by
  have e : Int.toNat (nn hi lo) = k + 1 := by rw [nn_eq]; omega
  refine ⟨e, e, ?_⟩
  rw [e]
  exact congrArg List.toArray (cells_F fun i _ => cell_mem h i)
theorem reF2 {first hi lo : Int} {k : Nat} (h : 0 ≤ first ∧ first < 256) (hn : 256 * hi + lo = (k : Int) + 1) :
    Int.toNat (nn hi lo) = k + 1 ∧ Int.toNat (nn hi lo) = k + 1 ∧ (cutV (cutV (memR first) 0 (32 * (Int.toNat (ww hi lo)))) (Int.toNat 0) (Int.toNat (nn hi lo))).toArray = (rowF first k).toArray := by
  have e : Int.toNat (nn hi lo) = k + 1 := by rw [nn_eq]; omega
  have ew : k + 1 ≤ 32 * (Int.toNat (ww hi lo)) := by rw [ww_eq, hn]; omega
  refine ⟨e, e, ?_⟩
  rw [e]
  refine congrArg List.toArray (cells_F fun i hi' => ?_)
  rw [cellI_cut, if_pos (by omega), Nat.zero_add, cell_mem h i]
theorem inR_mem {first : Int} (h : 0 ≤ first ∧ first < 256) : InR (memR first) := fun i => by
  rw [cell_mem h]
  split
  · exact h
  · omega
theorem growFD {hi lo : Int} (h1 : 0 ≤ hi ∧ hi < 256) (h2 : 0 ≤ lo ∧ lo < 256) (h3 : 33 ≤ 256 * hi + lo) : GrowFact (0 + (nn hi lo)) 32 (Int.toNat (ww hi lo)) := by
  rw [nn_eq, ww_eq]
  exact ⟨by omega, big_small (by omega), by omega, by omega, by omega⟩
theorem memFD (first : Int) : MemFact 32 32 5 (memR first) 32 := ⟨rfl, _, rfl, memR_b first, rfl, rfl, by omega⟩
theorem made_k {k : Nat} (h : k ≤ 65535) : MadeB Sagg.prog 30 (.int .u16 (Int.ofNat (k + 1))) (.int .u16 (Int.ofNat (k + 1))) (Int.toNat (Int.ofNat (k + 1))) := by
  intro w
  have := run_make_row' (P := Sagg.prog) 30 5 (.int .u8 0) 1 Sagg.underlying30 info5 rfl .u16 .u16 (k + 1) (by omega) (by omega) w
  rw [show Int.toNat (Int.ofNat (k + 1)) = k + 1 from rfl]
  rw [show (zeroB (k + 1)).toArray = madeCells #[.int .u8 0] (k + 1) from ?_]
  · simpa using this
  · apply Array.ext'
    rw [toList_madeCells_one]
    rfl
end Go.Proofs.EX
