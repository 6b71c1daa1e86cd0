/-
  'CallCodeRight': all cases together.
-/
import Derived.Test.YgcsagGreatCcmn00
import Derived.Test.YgcsagGreatCcmn0V
import Derived.Test.YgcsagGreatCcmnT0
import Derived.Test.YgcsagGreatCcmnlt
import Derived.Test.YgcsagGreatCcmngt
import Derived.Test.YgcsagGreatCcmneq
import Derived.Test.YgcsagGreatCcms0L
import Derived.Test.YgcsagGreatCcms0G
import Derived.Test.YgcsagGreatCcmsTL
import Derived.Test.YgcsagGreatCcmsTG
namespace Go.Proofs.EX
open Go.RowKit Go.Proofs.YgcsagGreat
set_option linter.unusedVariables false
theorem cc_calls {tv v : Int} {st : Bool} (ht : 0 ≤ tv ∧ tv < 256) (hv : 0 ≤ v ∧ v < 256) (w : World) :
    Calls Sagg.prog 3 #[.int .u8 tv, .int .u8 v, .bool st] w fun e w' => e = .returned (.bool true) ∧ Below w.heap.size w w' := by
  rcases Int.lt_or_eq_of_le ht.1 with ht0 | ht0
  · cases st with
    | false =>
      rcases Int.lt_or_eq_of_le hv.1 with hv0 | hv0
      · rcases Int.lt_trichotomy v tv with h | h | h
        · exact cc_n_lt_calls tv v ht ht0 hv hv0 h w
        · subst h
          exact cc_n_eq_calls v v ht ht0 w
        · exact cc_n_gt_calls tv v ht ht0 hv h w
      · subst hv0
        exact cc_n_T0_calls tv 0 ht ht0 w
    | true =>
      rcases (by omega : tv < v ∨ v ≤ tv) with h | h
      · exact cc_s_TG_calls tv v ht ht0 hv h w
      · exact cc_s_TL_calls tv v ht ht0 hv h w
  · subst ht0
    cases st with
    | false =>
      rcases Int.lt_or_eq_of_le hv.1 with hv0 | hv0
      · exact cc_n_0V_calls 0 v hv hv0 w
      · subst hv0
        exact cc_n_00_calls 0 0 w
    | true =>
      rcases Int.lt_or_eq_of_le hv.1 with hv0 | hv0
      · exact cc_s_0G_calls 0 v hv hv0 w
      · subst hv0
        exact cc_s_0L_calls 0 0 w
end Go.Proofs.EX
