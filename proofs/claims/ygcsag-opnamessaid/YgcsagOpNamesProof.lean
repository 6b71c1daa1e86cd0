/-
  THE PROOF OF 'Rows.OpNamesSaid' ('yellow/law.OpNames').
-/
import Derived.Test.YgcsagOpTop
import Derived.ProofKit
import Derived.OpenShut
import Derived.ShutString
namespace Go.Proofs.Ygcsag.opNames
open Go.ChangeShapes Go.WideShapes Go.ChangeAt Go.RowKit
set_option linter.unusedVariables false

theorem own : ownKnob Sagg.prog.godebug = none := by kernel_rfl

/-! ### THE ROW's STEP: WRITTEN OUT: LEAVE IT -/
set_option maxRecDepth 100000 in
theorem lifted (os : Os) (started : os.Started) (H : Type) (enc : TypeId × Value → H) :
    ReturnsInHanded {} Sagg.checked os 7 .any (Rows.opNamesSpec.pre6 enc Sagg.prog Sagg.f7 Rows.opNamesRow.domain false) (Rows.opNamesSpec.post enc Sagg.prog Sagg.f7 false true false false) := by
  refine returnsInHanded_of_change (C := Sagg.checked) own started (by kernel_rfl) Sagg.func7
    (ChangeSpec.witness6 (enc := enc) (C := Sagg.checked) false ⟨#[], #[.int .u8 0], []⟩ 8 (by kernel_rfl) (by kernel_rfl) (by kernel_rfl) (by kernel_rfl)) ?_
  intro W base args ds gs before hval0 hW hcnd _
  have hval : ∀ (j : Nat) t v, Sagg.f7.params[j]? = some t → args[j]? = some v → Value.okWide Sagg.prog W .any base t v := hval0
  have hW' := hW
  obtain ⟨p, q, hA0, hV, rfl, hfz, hnd⟩ := hW
  have hA : DataW.TrodAll enc Sagg.prog W 0 (fun _ => true) true Sagg.f7.params.toList args.toList ds p := hA0
  rw [Sagg.params7] at hA hval
  obtain ⟨v0, vs0, d0, ds0, p0, q0, hargs, rfl, rfl, h0, r0⟩ := trodAll_cons hA
  obtain ⟨rfl, rfl, rfl⟩ := trodAll_nil r0
  obtain rfl : args = #[v0] := by cases args; simp_all
  obtain ⟨rfl, rfl⟩ := trodVars_none hV
  obtain ⟨a0, rfl, rfl, rfl, w0⟩ := open_int Sagg.underlying5 (hval 0 5 v0 rfl rfl) h0
  clear hA0 hval0
  simp only [List.append_nil] at hW'
  have hb0 := bounds_u8 w0
  obtain ⟨o, rfl⟩ := Int.eq_ofNat_of_zero_le hb0.1
  refine (opNames_calls o (by omega) W).mono fun e W' ⟨he, bel⟩ => ?_
  subst he
  exact ⟨_, rfl, _, _, _, [], _, [], hW', trodAll_mk1 (shut_bool Sagg.underlying4 _), (trodAll_cons_mk (shut_int Sagg.underlying5 w0) trodAll_mk0), rfl, bel.frame _, fun h => by cases h⟩

theorem over : Rows.opNamesRow.holds Sagg.pinned (OpenSpec.ofChange Rows.opNamesSpec) :=
  OpenClaim.holds_of_wide 7 Sagg.f7 rfl rfl rfl rfl rfl rfl rfl ⟨rfl, rfl, rfl, rfl, rfl⟩ rfl rfl rfl rfl rfl (by kernel_rfl) Sagg.func7 (by kernel_rfl)
    (of_decide_eq_true (by kernel_rfl)) (by unfold Func.isWrapper; first | (rw [if_pos (by decide +kernel)]; kernel_rfl) | (rw [if_neg (by decide +kernel)]; exact ⟨rfl, rfl⟩))
    (fun os started H enc _ => lifted os started H enc)

/-- ████ THE STATEMENT ████ -/
theorem proved : Rows.OpNamesSaid :=
  over
end Go.Proofs.Ygcsag.opNames
