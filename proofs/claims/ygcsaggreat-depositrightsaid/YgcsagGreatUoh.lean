/-
  'Topics': specs, words and laws that its runs share.
-/
import Derived.Test.YgcsagGreatJQ
import Derived.Test.YgcsagGreatHnh
namespace Go.Proofs.EX
open Go.RowKit Go.Proofs.YgcsagGreat
set_option linter.unusedVariables false
set_option linter.unusedSimpArgs false
noncomputable def topSpecs : List (FuncId × Spec) := (25, rowCX) :: (50, rowCX) :: (101, u64X) :: (136, cutX) :: (132, writeX) :: (58, laidX) :: (23, equalX) :: natSpecs2
noncomputable def topSpecsG : List (FuncId × Spec) := (87, growX) :: topSpecs
noncomputable def topLoops : LTab := [(73004, (b73, intrL))]
theorem topSpecs_ok : ∀ p ∈ topSpecs, SpecOK p.1 p.2 := by
  unfold topSpecs
  simp only [List.forall_mem_cons]
  exact ⟨copy25_ok, copy50_ok, u64X_ok, cutX_ok, writeX_ok, laidX_ok, equalX_ok, natSpecs2_ok⟩
theorem topSpecsG_ok : ∀ p ∈ topSpecsG, SpecOK p.1 p.2 := by
  unfold topSpecsG
  simp only [List.forall_mem_cons]
  exact ⟨growX_ok, topSpecs_ok⟩
theorem topLoops_ok : LsOK topLoops := intrL_ok
/-! ### Numbers -/
theorem tw1 {hl : Nat} (h : hl ≤ 64) : IntKind.wrap .u64 ((hl : Nat) : Int) = (hl : Int) := wrap_u (by omega) (by omega)
theorem tw2 {hl c : Nat} (h : c ≤ hl) (hh : hl ≤ 64) : IntKind.wrap .u64 ((hl : Int) - (c : Int)) = (hl : Int) - (c : Int) := wrap_u (by omega) (by omega)
theorem cnt_le : ∀ zs : List Int, cntV (bcells zs) ≤ zs.length
  | [] => Nat.le_refl _
  | x :: zs => by
    have := cnt_le zs
    show (if x = 0 then 1 else 0) + cntV (bcells zs) ≤ zs.length + 1
    split <;> omega
def hlu (hl : Nat) : Int := IntKind.wrap .u64 (Int.ofNat hl)
theorem hlu_eq {hl : Nat} (h : hl ≤ 64) : hlu hl = (hl : Int) := tw1 h
/-- What the transaction pays ahead of its first step. -/
def gG (hl : Nat) (zs : List Int) : Int := ((21000 + (4 * (Int.ofNat (cntV (bcells zs))))) + (16 * (IntKind.wrap .u64 (hlu hl - (Int.ofNat (cntV (bcells zs)))))))
theorem gG_eq {hl : Nat} {zs : List Int} (hc : cntV (bcells zs) ≤ hl) (h : hl ≤ 64) : gG hl zs = 21000 + 4 * ((cntV (bcells zs) : Nat) : Int) + 16 * ((hl : Int) - ((cntV (bcells zs) : Nat) : Int)) := by
  unfold gG
  rw [hlu_eq h]
  show 21000 + 4 * ((cntV (bcells zs) : Nat) : Int) + 16 * IntKind.wrap .u64 ((hl : Int) - ((cntV (bcells zs) : Nat) : Int)) = _
  rw [tw2 hc h]
def tsl (ts : Nat → Nat → Int) (i : Nat) : List Int := l32 (ts i)
theorem told_gk0 {t : TypeId} {k : IntKind} {a b : Int} (h : a ≤ b) : Told Sagg.prog .gtr t (.int k a) (.int k b) (toldV 0 0) := by
  refine told_fast ?_
  unfold fastB
  rw [Nat.beq_refl]
  show some (Value.bool (ltB b a)) = some (.bool false)
  rw [ltB_eq, decide_eq_false (by omega)]
theorem told_gk1 {t : TypeId} {k : IntKind} {a b : Int} (h : b < a) : Told Sagg.prog .gtr t (.int k a) (.int k b) (toldV 1 0) := by
  refine told_fast ?_
  unfold fastB
  rw [Nat.beq_refl]
  show some (Value.bool (ltB b a)) = some (.bool true)
  rw [ltB_eq, decide_eq_true h]
theorem told_in0 {t : TypeId} {k : IntKind} {a b : Int} (h : a = b) : Told Sagg.prog .neq t (.int k a) (.int k b) (toldV 0 0) := by
  refine told_fast ?_
  unfold fastB
  rw [Nat.beq_refl]
  show some (Value.bool (not (eqB a b))) = some (.bool false)
  rw [eqB_eq, decide_eq_true h]
  rfl
theorem told_nW0 {xs ys : List Int} (hx : xs.length = 32) (hy : ys.length = 32) (h : xs = ys) : Told Sagg.prog .neq 29 (.agg (bcells xs).toArray) (.agg (bcells ys).toArray) (toldV 0 0) := by
  have := told_neq u29 g29 hx hy
  rwa [decide_eq_true h] at this
/-! ### Rows -/
theorem cellI_cut (cs : List Value) (o n i : Nat) : cellI (cutV cs o n) i = if i < n then cellI cs (o + i) else 0 := by
  unfold cutV
  conv => lhs; unfold cellI
  by_cases h : i < n
  · rw [List.getElem?_map, List.getElem?_range h, if_pos h]
    rfl
  · rw [List.getElem?_eq_none (by simp; omega), if_neg h]
/-- All bytes of a row of cells are bytes. -/
def InR (cs : List Value) : Prop := ∀ i, 0 ≤ cellI cs i ∧ cellI cs i < 256
theorem inR_b {zs : List Int} (h : Dig zs) : InR (bcells zs) := fun i => by
  rw [cellI_b]
  exact h.getD i
theorem inR_cut {cs : List Value} (h : InR cs) (o n : Nat) : InR (cutV cs o n) := fun i => by
  rw [cellI_cut]
  split
  · exact h _
  · omega
theorem cutV_rows (cs : List Value) (o n : Nat) : cutV cs o n = bcells ((List.range n).map fun i => cellI cs (o + i)) := by
  unfold cutV bcells
  rw [List.map_map]
  rfl
theorem rowFact_cut {cs : List Value} (h : InR cs) {o n m : Nat} (hm : n = m) (hn : n ≤ 100000) : RowFact m (cutV cs o n).toArray := by
  refine ⟨_, by rw [cutV_rows], by simp [hm], by omega, fun x hx => ?_⟩
  obtain ⟨i, _, rfl⟩ := List.mem_map.1 hx
  exact h _
theorem inR_nil : InR [] := fun i => by
  unfold cellI
  simp
theorem allIn_cells {cs : List Value} (h : InR cs) (n : Nat) : AllIn ((List.range n).map (cellI cs)) := allIn_of fun x hx => by
  obtain ⟨i, _, rfl⟩ := List.mem_map.1 hx
  exact h i
theorem kB {og ln : Int} (h1 : 0 ≤ og ∧ og < 256) (h2 : 0 ≤ ln ∧ ln < 256) : 32 * (Int.toNat ((beV [og] + beV [ln] + 31) / 32)) ≤ 100000 := by
  rw [beV_1, beV_1]
  omega
theorem lB {ln : Int} (h2 : 0 ≤ ln ∧ ln < 256) : Int.toNat (beV [ln]) ≤ 100000 := by
  rw [beV_1]
  omega
theorem growF {og ln : Int} {m : Nat} (h1 : 0 ≤ og ∧ og < 256) (h2 : 0 ≤ ln ∧ ln < 256) (h3 : ((m / 32 : Nat) : Int) < (og + ln + 31) / 32) : GrowFact (beV [og] + beV [ln]) m (Int.toNat ((beV [og] + beV [ln] + 31) / 32)) := by
  rw [beV_1, beV_1]
  exact ⟨by omega, big_small (by omega), by omega, by omega, by omega⟩
theorem cutF {og ln : Int} {l : Nat} (h1 : 0 ≤ og ∧ og < 256) (h2 : 0 ≤ ln ∧ ln < 256) (hl : l ≤ 100000) : CutFact (beV [og]) (beV [ln]) l l := by
  rw [beV_1, beV_1]
  exact ⟨by omega, by omega, by omega, Nat.le_refl _, hl⟩
theorem memF (cs : List Value) {m : Nat} (hm : m ≤ 100000) : MemFact m m 5 (cutV cs 0 m) m := ⟨rfl, _, rfl, cutV_rows cs 0 m, rfl, by simp, hm⟩
theorem hluN {hl : Nat} (h : hl ≤ 64) : Int.toNat (hlu hl) = hl := by
  rw [hlu_eq h]
  omega
theorem writeF {zs : List Int} {hl m : Nat} (hd : Dig zs) (h : hl ≤ 64) (hm : hl ≤ m) (h0 : 0 < m) (h1 : m ≤ 100000) : WriteFact 0 (Int.toNat (hlu hl)) m m (cutV (bcells zs) (Int.toNat 0) (Int.toNat (hlu hl))).toArray 5 (zeroB m) m := by
  rw [hluN h]
  exact ⟨rfl, rfl, rowFact_cut (inR_b hd) rfl (by omega), ⟨hm, h0, h1⟩, rfl, rfl, rfl⟩
theorem memW {og ln : Int} (h1 : 0 ≤ og ∧ og < 256) (h2 : 0 ≤ ln ∧ ln < 256) : IntKind.wrap .u64 (IntKind.wrap .i64 (Int.tdiv (Int.ofNat (32 * (Int.toNat ((beV [og] + beV [ln] + 31) / 32)))) 32)) = (og + ln + 31) / 32 := by
  rw [beV_1, beV_1]
  have h4 : 0 ≤ (og + ln + 31) / 32 := by omega
  have h5 : (og + ln + 31) / 32 ≤ 100 := by omega
  generalize (og + ln + 31) / 32 = k at *
  obtain ⟨K, rfl⟩ := Int.eq_ofNat_of_zero_le h4
  have e : Int.tdiv (Int.ofNat (32 * (Int.toNat (K : Int)))) 32 = (K : Int) := by
    rw [Int.toNat_natCast]
    have h3 : Int.tdiv (Int.ofNat (32 * K)) (Int.ofNat 32) = Int.ofNat (32 * K / 32) := (Int.ofNat_tdiv _ _).symm
    rw [Nat.mul_div_cancel_left _ (by omega)] at h3
    exact h3
  rw [e, wrap64 (by omega) (by omega), wrap_u (by omega) (by omega)]
theorem rowFact_zs {zs : List Int} {hl : Nat} (hz : zs.length = hl) (hd : Dig zs) (hh : hl ≤ 64) : RowFact hl (bcells zs).toArray := ⟨zs, rfl, hz, by omega, hd⟩
/-- What is cut out of what was laid out whole is cut out of the row itself. -/
theorem cut_cut {cs : List Value} {m o n : Nat} (h : ∀ i, m ≤ i → cellI cs i = 0) : cutV (cutV cs 0 m) o n = cutV cs o n := by
  unfold cutV
  apply List.map_congr_left
  intro i _
  have e := cellI_cut cs 0 m (o + i)
  unfold cutV at e
  rw [e]
  split
  · rw [Nat.zero_add]
  · rw [h (o + i) (by omega)]
theorem cellI_out {zs : List Int} {i : Nat} (h : zs.length ≤ i) : cellI (bcells zs) i = 0 := by
  rw [cellI_b]
  simp [List.getD_eq_getElem?_getD, h]
end Go.Proofs.EX
