/-
  'DestructRight': laws for what its runs owe.
-/
import Derived.Test.YgcsagGreatQq
namespace Go.Proofs.EX
open Go.RowKit Go.Proofs.YgcsagGreat
set_option linter.unusedVariables false
set_option linter.unusedSimpArgs false
theorem told_rem8 {kind : Int} {r : Nat} (h : kind.tmod 8 = Int.ofNat r) : Told Sagg.prog .rem 5 (.int .u8 kind) (.int .u8 8) (toldV 2 r) := by
  intro x y w
  have hg : (eqGuard .rem 5 x y (.int .u8 kind) (.int .u8 8)).run Sagg.prog w = .ok () w := by
    unfold eqGuard
    simp
  rw [Sem.run_bind, hg]
  show (binOp .rem 5 (.int .u8 kind) (.int .u8 8)).run Sagg.prog w = _
  simp [binOp, Op.intArith, Op.intDiv, h, toldV]
theorem told_word0 {xs ys : List Int} (hx : xs.length = 32) (hy : ys.length = 32) (h : xs = ys) : Told Sagg.prog .neq 29 (.agg (bcells xs).toArray) (.agg (bcells ys).toArray) (toldV 0 0) := by
  have := told_neq u29 g29 hx hy
  rwa [decide_eq_true h] at this
end Go.Proofs.EX
