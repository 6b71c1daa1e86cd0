/-
  THE PROOF OF 'Rows.BitPowSaid' ('yellow/law.BitPow').
-/
import Derived.Test.YgcsagBitPowTop
import Derived.ProofKit
import Derived.OpenShut
import Derived.ShutString
import Derived.ChangeOld
import Derived.SizedLaws
namespace Go.Proofs.Ygcsag.bitPow
open Go.ChangeShapes Go.WideShapes Go.ChangeAt Go.RowKit
open Go.ChangeMaps (open_string shut_string)
set_option linter.unusedVariables false

theorem own : ownKnob Sagg.prog.godebug = none := by kernel_rfl
theorem laidOut : laidOutB Sagg.prog = true := by kernel_rfl
theorem bytes5 : Sagg.prog.bytesOf 5 = 1 := by kernel_rfl

theorem dig_of_wf {zs : List Int} (h : ∀ n ∈ zs, (Lit.int .u8 n).wf = true) : Dig zs := fun n hn => by
  have := bounds_u8 (h n hn)
  omega

/-! ### THE ROW's STEP: WRITTEN OUT: LEAVE IT -/
set_option maxRecDepth 100000 in
theorem lifted (os : Os) (started : os.Started) (H : Type) (enc : TypeId × Value → H) :
    ReturnsInHanded {} Sagg.checked os 3 .any (Rows.bitPowSpec.pre6 enc Sagg.prog Sagg.f3 Rows.bitPowRow.domain false) (Rows.bitPowSpec.post enc Sagg.prog Sagg.f3 false true false false) := by
  refine returnsInHanded_of_change_sized (C := Sagg.checked) own started (by kernel_rfl) Sagg.func3
    (ChangeSpec.witness6 (enc := enc) (C := Sagg.checked) false ⟨#[], #[.slice none 0 0, .int .u16 0], []⟩ 8 (by kernel_rfl) (by kernel_rfl) (by kernel_rfl) (by kernel_rfl)) ?_
  intro W base args ds gs before hval0 hW hcnd hsz0 _
  have hval : ∀ (j : Nat) t v, Sagg.f3.params[j]? = some t → args[j]? = some v → Value.okWide Sagg.prog W .any base t v := hval0
  have hW' := hW
  obtain ⟨p, q, hA0, hV, rfl, hfz, hnd⟩ := hW
  have hA : DataW.TrodAll enc Sagg.prog W 0 (fun _ => true) true Sagg.f3.params.toList args.toList ds p := hA0
  have hsz : (DataW.weightsEach Sagg.prog (Sagg.f3.params.toList ++ Rows.bitPowSpec.plain.varTypes Sagg.prog) (ds ++ gs)).all (· ≤ reachBytes) = true := hsz0
  rw [Sagg.params3] at hA hval hsz
  obtain ⟨v0, vs0, d0, ds0, p0, q0, hargs, rfl, rfl, h0, r0⟩ := trodAll_cons hA
  obtain ⟨v1, vs1, d1, ds1, p1, q1, rfl, rfl, rfl, h1, r1⟩ := trodAll_cons r0
  obtain ⟨rfl, rfl, rfl⟩ := trodAll_nil r1
  obtain rfl : args = #[v0, v1] := by cases args; simp_all
  obtain ⟨rfl, rfl⟩ := trodVars_none hV
  obtain ⟨a0, len0, cap0, rfl⟩ := okWide_slice Sagg.underlying22 (hval 0 22 v0 rfl rfl)
  have k0 := h0
  have lt0 : ∀ x ∈ p0, x.block < W.heap.size := by obtain ⟨m, hm⟩ := k0; exact DataW.trod_lt m _ _ _ hm
  obtain ⟨z0, hl0, hlc, hm0, h47, w0⟩ : ∃ zs : List Int, zs.length = len0 ∧ len0 ≤ cap0 ∧ cap0 ≤ maxLen ∧ len0 ≤ 140737488351232 ∧ ByteRow W a0 zs := by
    obtain ⟨fuel, hf⟩ := h0
    rcases open_ints Sagg.underlying22 Sagg.underlying5 (by kernel_rfl) hf with ⟨hcs, _⟩ | ⟨x, l, c, zs, hcs, _, hl, hm, hz, hx, hcell, hwz⟩
    · simp [Value.cells] at hcs
      obtain ⟨rfl, rfl, rfl⟩ := hcs
      exact ⟨[], rfl, Nat.le_refl _, by unfold maxLen; omega, by omega, ByteRow.nil _ _⟩
    · simp [Value.cells] at hcs
      obtain ⟨rfl, rfl, rfl⟩ := hcs
      simp only [Prod.mk.injEq] at hx
      obtain ⟨hd0, -⟩ := hx
      subst hd0
      simp only [if_true] at hz
      have hs := sized_slice hsz (j := 0) (t := 22) (e := 5) rfl rfl Sagg.underlying22
      rw [bytes5] at hs
      simp only [lits, List.length_map, List.length_take, List.length_drop, reachBytes] at hs
      refine ⟨zs.take len0, by rw [List.length_take]; omega, hl, hm, by omega, ?_⟩
      refine ByteRow.take ⟨dig_of_wf hwz, ?_⟩ _
      rcases Nat.eq_zero_or_pos zs.length with h0 | h0
      · exact .inl (List.length_eq_zero_iff.1 h0)
      · obtain ⟨b, off, spot⟩ := x
        have hspot : spot = none := by simpa [Addr.add] using World.cell?_spot (hcell 0 h0)
        subst hspot
        exact .inr ⟨b, off, rfl, fun i hi => by rw [← add_plain]; exact hcell i hi⟩
  obtain ⟨a1, rfl, rfl, rfl, w1⟩ := open_int Sagg.underlying23 (hval 1 23 v1 rfl rfl) h1
  clear hA0 hval0
  have hb1 := bounds_u16 w1
  obtain ⟨i1, rfl⟩ := Int.eq_ofNat_of_zero_le hb1.1
  refine (bitPow_calls a0 len0 cap0 z0 i1 W hl0 hlc hm0 (by omega) w0 (by omega)).mono fun e W' ⟨he, bel⟩ => ?_
  subst he
  exact ⟨_, rfl, _, _, _, [], _, [], hW', trodAll_mk1 (shut_bool Sagg.underlying4 _), (trodAll_cons_mk (Below.trod laidOut (by kernel_rfl) (of_decide_eq_true (by kernel_rfl)) k0 bel lt0) (trodAll_cons_mk (shut_int Sagg.underlying23 w1) trodAll_mk0)), rfl, bel.frame _, fun h => by cases h⟩

theorem over : Rows.bitPowRow.holds Sagg.pinned (OpenSpec.ofChange Rows.bitPowSpec) :=
  OpenClaim.holds_of_wide 3 Sagg.f3 rfl rfl rfl rfl rfl rfl rfl ⟨rfl, rfl, rfl, rfl, rfl⟩ rfl rfl rfl rfl rfl (by kernel_rfl) Sagg.func3 (by kernel_rfl)
    (of_decide_eq_true (by kernel_rfl)) (by unfold Func.isWrapper; first | (rw [if_pos (by decide +kernel)]; kernel_rfl) | (rw [if_neg (by decide +kernel)]; exact ⟨rfl, rfl⟩))
    (fun os started H enc _ => lifted os started H enc)

/-- ████ THE STATEMENT ████ -/
theorem proved : Rows.BitPowSaid := over
end Go.Proofs.Ygcsag.bitPow
