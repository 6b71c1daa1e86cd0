/-
  'DestructRight': its runs, all together.
-/
import Derived.Test.YgcsagGreatDem0z
import Derived.Test.YgcsagGreatDem0b
import Derived.Test.YgcsagGreatDem1z
import Derived.Test.YgcsagGreatDem1b
import Derived.Test.YgcsagGreatDem2z
import Derived.Test.YgcsagGreatDem2b
import Derived.Test.YgcsagGreatDem3z
import Derived.Test.YgcsagGreatDem3b
import Derived.Test.YgcsagGreatDem4z
import Derived.Test.YgcsagGreatDem4b
import Derived.Test.YgcsagGreatDem5z
import Derived.Test.YgcsagGreatDem5b
import Derived.Test.YgcsagGreatDem6z
import Derived.Test.YgcsagGreatDem6b
import Derived.Test.YgcsagGreatDem7z
import Derived.Test.YgcsagGreatDem7b
namespace Go.Proofs.EX
open Go.RowKit Go.Proofs.YgcsagGreat
set_option linter.unusedVariables false
theorem tmod8 {k : Int} (h : 0 ≤ k ∧ k < 256) : k.tmod 8 = Int.ofNat 0 ∨ k.tmod 8 = Int.ofNat 1 ∨ k.tmod 8 = Int.ofNat 2 ∨ k.tmod 8 = Int.ofNat 3 ∨ k.tmod 8 = Int.ofNat 4 ∨ k.tmod 8 = Int.ofNat 5 ∨ k.tmod 8 = Int.ofNat 6 ∨ k.tmod 8 = Int.ofNat 7 := by
  have e : k.tmod 8 = k % 8 := Int.tmod_eq_emod_of_nonneg h.1
  rw [e]
  simp only [Int.ofNat_eq_natCast]
  omega
theorem de_calls {kind b : Int} {w : World} (hkd : 0 ≤ kind ∧ kind < 256) (hb : 0 ≤ b ∧ b < 256) : Calls Sagg.prog 4 #[.int .u8 kind, .int .u8 b] w fun e w' => e = .returned (.bool true) ∧ Below w.heap.size w w' := by
  rcases (by omega : b = 0 ∨ 0 < b) with rfl | hb0
  · rcases tmod8 hkd with hk | hk | hk | hk | hk | hk | hk | hk
    · exact de_0z_calls kind 0 hk w
    · exact de_1z_calls kind 0 hk w
    · exact de_2z_calls kind 0 hk w
    · exact de_3z_calls kind 0 hk w
    · exact de_4z_calls kind 0 hk w
    · exact de_5z_calls kind 0 hk w
    · exact de_6z_calls kind 0 hk w
    · exact de_7z_calls kind 0 hk w
  · rcases tmod8 hkd with hk | hk | hk | hk | hk | hk | hk | hk
    · exact de_0b_calls kind b hk hb hb0 w
    · exact de_1b_calls kind b hk hb hb0 w
    · exact de_2b_calls kind b hk hb hb0 w
    · exact de_3b_calls kind b hk hb hb0 w
    · exact de_4b_calls kind b hk hb hb0 w
    · exact de_5b_calls kind b hk hb hb0 w
    · exact de_6b_calls kind b hk hb hb0 w
    · exact de_7b_calls kind b hk hb hb0 w
end Go.Proofs.EX
