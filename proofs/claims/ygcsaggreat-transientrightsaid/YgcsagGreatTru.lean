/-
  'TransientRight' holds whatever it is given.
-/
import Derived.Test.YgcsagGreatTrm000
import Derived.Test.YgcsagGreatTrm010
import Derived.Test.YgcsagGreatTrm100
import Derived.Test.YgcsagGreatTrm101
import Derived.Test.YgcsagGreatTrm110
import Derived.Test.YgcsagGreatTrm111
import Derived.Test.YgcsagGreatTrm200
import Derived.Test.YgcsagGreatTrm201
import Derived.Test.YgcsagGreatTrm210
import Derived.Test.YgcsagGreatTrm211
import Derived.Test.YgcsagGreatTrm300
import Derived.Test.YgcsagGreatTrm301
import Derived.Test.YgcsagGreatTrm310
import Derived.Test.YgcsagGreatTrm311
import Derived.Test.YgcsagGreatTrm400
import Derived.Test.YgcsagGreatTrm410
namespace Go.Proofs.EX
open Go.RowKit Go.Proofs.YgcsagGreat
set_option linter.unusedVariables false
set_option linter.unusedSimpArgs false
theorem rem5 {kind : Int} {r : Nat} {x y : Operand} (h : kind.tmod 5 = Int.ofNat r) (w : World) : (do eqGuard .rem 5 x y (.int .u8 kind) (.int .u8 5); binOp .rem 5 (.int .u8 kind) (.int .u8 5)).run Sagg.prog w = .ok (toldV 2 r) w := by
  simp [binOp, eqGuard, Op.intDiv, toldV, h]
theorem cmp_zero {f : Nat → Int} (hf : AllIn (l32 f)) : cmpX (beV (l32 f)) 0 = 0 ∨ cmpX (beV (l32 f)) 0 = 1 := by
  have h0 := (beV_range hf).1
  rw [cmpX_eq]
  unfold cmpI
  rw [if_neg (by omega)]
  split
  · exact .inr rfl
  · exact .inl rfl
theorem tr_calls {kind : Int} {k x y : Nat → Int} (h0 : 0 ≤ kind) (h1 : kind ≤ 255) (hk : AllIn (l32 k)) (hx : AllIn (l32 x)) (hy : AllIn (l32 y)) (w : World) :
    Calls Sagg.prog 5 #[.int .u8 kind, .agg (row32 k).toArray, .agg (row32 x).toArray, .agg (row32 y).toArray] w fun e w' => e = .returned (.bool true) ∧ Below w.heap.size w w' := by
  have hm : kind.tmod 5 = kind % 5 := Int.tmod_eq_emod_of_nonneg h0
  have hcase : kind.tmod 5 = Int.ofNat 0 ∨ kind.tmod 5 = Int.ofNat 1 ∨ kind.tmod 5 = Int.ofNat 2 ∨ kind.tmod 5 = Int.ofNat 3 ∨ kind.tmod 5 = Int.ofNat 4 := by
    rw [hm]
    have a := Int.emod_nonneg kind (show (5 : Int) ≠ 0 by omega)
    have b := Int.emod_lt_of_pos kind (show (0 : Int) < 5 by omega)
    simp only [Int.ofNat_eq_natCast]
    omega
  rcases hcase with hr | hr | hr | hr | hr
  · rcases cmp_zero hx with cx | cx
    · exact tr_0_00_calls hk hx hy cx (rem5 hr) w
    · exact tr_0_10_calls hk hx hy cx (rem5 hr) w
  · rcases cmp_zero hx with cx | cx
    · rcases cmp_zero hy with cy | cy
      · exact tr_1_00_calls hk hx hy cx cy (rem5 hr) w
      · exact tr_1_01_calls hk hx hy cx cy (rem5 hr) w
    · rcases cmp_zero hy with cy | cy
      · exact tr_1_10_calls hk hx hy cx cy (rem5 hr) w
      · exact tr_1_11_calls hk hx hy cx cy (rem5 hr) w
  · rcases cmp_zero hx with cx | cx
    · rcases cmp_zero hy with cy | cy
      · exact tr_2_00_calls hk hx hy cx cy (rem5 hr) w
      · exact tr_2_01_calls hk hx hy cx cy (rem5 hr) w
    · rcases cmp_zero hy with cy | cy
      · exact tr_2_10_calls hk hx hy cx cy (rem5 hr) w
      · exact tr_2_11_calls hk hx hy cx cy (rem5 hr) w
  · rcases cmp_zero hx with cx | cx
    · rcases cmp_zero hy with cy | cy
      · exact tr_3_00_calls hk hx hy cx cy (rem5 hr) w
      · exact tr_3_01_calls hk hx hy cx cy (rem5 hr) w
    · rcases cmp_zero hy with cy | cy
      · exact tr_3_10_calls hk hx hy cx cy (rem5 hr) w
      · exact tr_3_11_calls hk hx hy cx cy (rem5 hr) w
  · rcases cmp_zero hx with cx | cx
    · exact tr_4_00_calls hk hx hy cx (rem5 hr) w
    · exact tr_4_10_calls hk hx hy cx (rem5 hr) w
end Go.Proofs.EX
