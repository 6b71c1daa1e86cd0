/-
  'Topics': laws for what its outer runs owe.
-/
import Derived.Test.YgcsagGreatToh
namespace Go.Proofs.EX
open Go.RowKit Go.Proofs.YgcsagGreat
set_option linter.unusedVariables false
set_option linter.unusedSimpArgs false
set_option maxRecDepth 100000
def tsA (ts : Nat → Nat → Int) : Array Value := #[u (ts 0 0), u (ts 0 1), u (ts 0 2), u (ts 0 3), u (ts 0 4), u (ts 0 5), u (ts 0 6), u (ts 0 7), u (ts 0 8), u (ts 0 9), u (ts 0 10), u (ts 0 11), u (ts 0 12), u (ts 0 13), u (ts 0 14), u (ts 0 15), u (ts 0 16), u (ts 0 17), u (ts 0 18), u (ts 0 19), u (ts 0 20), u (ts 0 21), u (ts 0 22), u (ts 0 23), u (ts 0 24), u (ts 0 25), u (ts 0 26), u (ts 0 27), u (ts 0 28), u (ts 0 29), u (ts 0 30), u (ts 0 31), u (ts 1 0), u (ts 1 1), u (ts 1 2), u (ts 1 3), u (ts 1 4), u (ts 1 5), u (ts 1 6), u (ts 1 7), u (ts 1 8), u (ts 1 9), u (ts 1 10), u (ts 1 11), u (ts 1 12), u (ts 1 13), u (ts 1 14), u (ts 1 15), u (ts 1 16), u (ts 1 17), u (ts 1 18), u (ts 1 19), u (ts 1 20), u (ts 1 21), u (ts 1 22), u (ts 1 23), u (ts 1 24), u (ts 1 25), u (ts 1 26), u (ts 1 27), u (ts 1 28), u (ts 1 29), u (ts 1 30), u (ts 1 31), u (ts 2 0), u (ts 2 1), u (ts 2 2), u (ts 2 3), u (ts 2 4), u (ts 2 5), u (ts 2 6), u (ts 2 7), u (ts 2 8), u (ts 2 9), u (ts 2 10), u (ts 2 11), u (ts 2 12), u (ts 2 13), u (ts 2 14), u (ts 2 15), u (ts 2 16), u (ts 2 17), u (ts 2 18), u (ts 2 19), u (ts 2 20), u (ts 2 21), u (ts 2 22), u (ts 2 23), u (ts 2 24), u (ts 2 25), u (ts 2 26), u (ts 2 27), u (ts 2 28), u (ts 2 29), u (ts 2 30), u (ts 2 31), u (ts 3 0), u (ts 3 1), u (ts 3 2), u (ts 3 3), u (ts 3 4), u (ts 3 5), u (ts 3 6), u (ts 3 7), u (ts 3 8), u (ts 3 9), u (ts 3 10), u (ts 3 11), u (ts 3 12), u (ts 3 13), u (ts 3 14), u (ts 3 15), u (ts 3 16), u (ts 3 17), u (ts 3 18), u (ts 3 19), u (ts 3 20), u (ts 3 21), u (ts 3 22), u (ts 3 23), u (ts 3 24), u (ts 3 25), u (ts 3 26), u (ts 3 27), u (ts 3 28), u (ts 3 29), u (ts 3 30), u (ts 3 31)]
theorem told_rem5 {kind : Int} {r : Nat} (h : kind.tmod 5 = Int.ofNat r) : Told Sagg.prog .rem 5 (.int .u8 kind) (.int .u8 5) (toldV 2 r) := by
  intro x y w
  have hg : (eqGuard .rem 5 x y (.int .u8 kind) (.int .u8 5)).run Sagg.prog w = .ok () w := by
    unfold eqGuard
    simp
  rw [Sem.run_bind, hg]
  show (binOp .rem 5 (.int .u8 kind) (.int .u8 5)).run Sagg.prog w = _
  simp [binOp, Op.intArith, Op.intDiv, h, toldV]
theorem wI {x : Int} (h : 0 ≤ x ∧ x < 256) : IntKind.wrap .i64 x = x := wrap64 (by omega) (by omega)
theorem told_len {ln : Int} (h : 0 ≤ ln ∧ ln < 256) : Told Sagg.prog .neq 3 (.int .i64 (Int.ofNat (Int.toNat (beV [ln])))) (.int .i64 (IntKind.wrap .i64 ln)) (toldV 0 0) := by
  refine told_in0 ?_
  rw [wI h, beV_1]
  exact Int.toNat_of_nonneg h.1
theorem made_b {ln : Int} (h : 0 ≤ ln ∧ ln < 256) : MadeB Sagg.prog 30 (.int .u8 ln) (.int .u8 ln) (Int.toNat ln) := by
  intro w
  obtain ⟨m, rfl⟩ := Int.eq_ofNat_of_zero_le h.1
  have := run_make_row' (P := Sagg.prog) 30 5 (.int .u8 0) 1 Sagg.underlying30 info5 rfl .u8 .u8 m (by omega) (by omega) w
  rw [Int.toNat_natCast]
  rw [show (zeroB m).toArray = madeCells #[.int .u8 0] m from ?_]
  · simpa using this
  · apply Array.ext'
    rw [toList_madeCells_one]
    rfl
theorem laidF {ln og : Int} {l : Nat} (h : 0 ≤ ln ∧ ln < 256) (ho : 0 ≤ og ∧ og < 256) : LaidFact 5 (zeroB (Int.toNat ln)) (Int.toNat ln) (Int.toNat ln) (Int.toNat ln) 0 (IntKind.wrap .i64 og) (IntKind.wrap .i64 ln) l := by
  rw [wI h, wI ho]
  exact ⟨⟨rfl, rfl, rfl⟩, rfl, (Int.toNat_of_nonneg h.1).symm, rfl, by omega, by omega, by omega⟩
theorem laid0 {og : Int} {l : Nat} (ho : 0 ≤ og ∧ og < 256) : LaidFact 5 [] 0 0 0 0 (IntKind.wrap .i64 og) 0 l := by
  rw [wI ho]
  exact ⟨⟨rfl, rfl, rfl⟩, rfl, rfl, rfl, by omega, by omega, by omega⟩
theorem told_word {ts : Nat → Nat → Int} {i : Nat} (h : AllIn (tsl ts i)) : Told Sagg.prog .neq 29 (.agg (bcells (dl32 (beV (tsl ts i)))).toArray) (.agg (bcells (tsl ts i)).toArray) (toldV 0 0) :=
  told_nW0 rfl rfl (dl32_beV h)
/-- What is cut out of a row of memory is what is cut out of the data. -/
theorem sameRow {ln og : Int} {cs ds : List Value} (h : 0 ≤ ln ∧ ln < 256) (ho : 0 ≤ og ∧ og < 256) (hi : InR cs) (he : ∀ o n, cutV cs o n = cutV ds o n) :
    (Int.toNat ln) = (Int.toNat (beV [ln])) ∧ RowFact (Int.toNat (beV [ln])) (cutV cs (Int.toNat (beV [og])) (Int.toNat (beV [ln]))).toArray ∧ (cutV ds (Int.toNat (IntKind.wrap .i64 og)) (Int.toNat ln)).toArray = (cutV cs (Int.toNat (beV [og])) (Int.toNat (beV [ln]))).toArray := by
  rw [wI ho, beV_1, beV_1]
  exact ⟨rfl, rowFact_cut hi rfl (by omega), by rw [he]⟩
theorem cut_nil (m o n : Nat) : cutV (cutV [] 0 m) o n = cutV [] o n := cut_cut (fun i _ => by unfold cellI; simp)
theorem cut_zs {zs : List Int} {m : Nat} (h : zs.length ≤ m) (o n : Nat) : cutV (cutV (bcells zs) 0 m) o n = cutV (bcells zs) o n := cut_cut (fun i hi => cellI_out (by omega))
theorem cut_hl {zs : List Int} {hl : Nat} (hz : zs.length = hl) (hh : hl ≤ 64) (o n : Nat) : cutV (cutV (bcells zs) (Int.toNat 0) (Int.toNat (hlu hl))) o n = cutV (bcells zs) o n := by
  rw [hluN hh]
  exact cut_zs (by omega) o n
theorem tsA_of (f : Nat → Int) : tsA (fun i j => f (32 * i + j)) = (bcells ((List.range 128).map f)).toArray := rfl
end Go.Proofs.EX
