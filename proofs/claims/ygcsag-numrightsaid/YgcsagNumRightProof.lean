/-
  THE PROOF OF 'Rows.NumRightSaid' ('yellow/law.NumRight').
-/
import Derived.Test.YgcsagNK
import Derived.Test.YgcsagRows
import Derived.ProofKit
import Derived.OpenShut
import Derived.ShutString
import Derived.ChangeOld
import Derived.SizedLaws
namespace Go.Proofs.Ygcsag.numRight
open Go.ChangeShapes Go.WideShapes Go.ChangeAt Go.RowKit
open Go.ChangeMaps (open_string shut_string)
set_option linter.unusedVariables false

theorem own : ownKnob Sagg.prog.godebug = none := by kernel_rfl
theorem laidOut : laidOutB Sagg.prog = true := by kernel_rfl
theorem bytes5 : Sagg.prog.bytesOf 5 = 1 := by kernel_rfl

theorem dig_of_wf {zs : List Int} (h : ∀ n ∈ zs, (Lit.int .u8 n).wf = true) : Dig zs := fun n hn => by
  have := bounds_u8 (h n hn)
  omega

/-! ### THE ROW's STEP: WRITTEN OUT: LEAVE IT -/
set_option maxRecDepth 100000 in
theorem lifted (os : Os) (started : os.Started) (H : Type) (enc : TypeId × Value → H) :
    ReturnsInHanded {} Sagg.checked os 4 .any (Rows.numRightSpec.pre6 enc Sagg.prog Sagg.f4 Rows.numRightRow.domain false) (Rows.numRightSpec.post enc Sagg.prog Sagg.f4 false true false false) := by
  refine returnsInHanded_of_change_sized (C := Sagg.checked) own started (by kernel_rfl) Sagg.func4
    (ChangeSpec.witness6 (enc := enc) (C := Sagg.checked) false ⟨#[], #[.int .u64 0, .int .u64 0, .int .u64 0, .slice none 0 0, .int .i64 0], []⟩ 8 (by kernel_rfl) (by kernel_rfl) (by kernel_rfl) (by kernel_rfl)) ?_
  intro W base args ds gs before hval0 hW hcnd hsz0 _
  have hval : ∀ (j : Nat) t v, Sagg.f4.params[j]? = some t → args[j]? = some v → Value.okWide Sagg.prog W .any base t v := hval0
  have hW' := hW
  obtain ⟨p, q, hA0, hV, rfl, hfz, hnd⟩ := hW
  have hA : DataW.TrodAll enc Sagg.prog W 0 (fun _ => true) true Sagg.f4.params.toList args.toList ds p := hA0
  have hsz : (DataW.weightsEach Sagg.prog (Sagg.f4.params.toList ++ Rows.numRightSpec.plain.varTypes Sagg.prog) (ds ++ gs)).all (· ≤ reachBytes) = true := hsz0
  rw [Sagg.params4] at hA hval hsz
  obtain ⟨v0, vs0, d0, ds0, p0, q0, hargs, rfl, rfl, h0, r0⟩ := trodAll_cons hA
  obtain ⟨v1, vs1, d1, ds1, p1, q1, rfl, rfl, rfl, h1, r1⟩ := trodAll_cons r0
  obtain ⟨v2, vs2, d2, ds2, p2, q2, rfl, rfl, rfl, h2, r2⟩ := trodAll_cons r1
  obtain ⟨v3, vs3, d3, ds3, p3, q3, rfl, rfl, rfl, h3, r3⟩ := trodAll_cons r2
  obtain ⟨v4, vs4, d4, ds4, p4, q4, rfl, rfl, rfl, h4, r4⟩ := trodAll_cons r3
  obtain ⟨rfl, rfl, rfl⟩ := trodAll_nil r4
  obtain rfl : args = #[v0, v1, v2, v3, v4] := by cases args; simp_all
  obtain ⟨rfl, rfl⟩ := trodVars_none hV
  obtain ⟨a0, rfl, rfl, rfl, w0⟩ := open_int Sagg.underlying31 (hval 0 31 v0 rfl rfl) h0
  obtain ⟨a1, rfl, rfl, rfl, w1⟩ := open_int Sagg.underlying31 (hval 1 31 v1 rfl rfl) h1
  obtain ⟨a2, rfl, rfl, rfl, w2⟩ := open_int Sagg.underlying31 (hval 2 31 v2 rfl rfl) h2
  obtain ⟨a3, len3, cap3, rfl⟩ := okWide_slice Sagg.underlying22 (hval 3 22 v3 rfl rfl)
  have k3 := h3
  have lt3 : ∀ x ∈ p3, x.block < W.heap.size := by obtain ⟨m, hm⟩ := k3; exact DataW.trod_lt m _ _ _ hm
  obtain ⟨z3, hl3, hlc, hm3, h47, w3⟩ : ∃ zs : List Int, zs.length = len3 ∧ len3 ≤ cap3 ∧ cap3 ≤ maxLen ∧ len3 ≤ 140737488351232 ∧ ByteRow W a3 zs := by
    obtain ⟨fuel, hf⟩ := h3
    rcases open_ints Sagg.underlying22 Sagg.underlying5 (by kernel_rfl) hf with ⟨hcs, _⟩ | ⟨x, l, c, zs, hcs, _, hl, hm, hz, hx, hcell, hwz⟩
    · simp [Value.cells] at hcs
      obtain ⟨rfl, rfl, rfl⟩ := hcs
      exact ⟨[], rfl, Nat.le_refl _, by unfold maxLen; omega, by omega, ByteRow.nil _ _⟩
    · simp [Value.cells] at hcs
      obtain ⟨rfl, rfl, rfl⟩ := hcs
      simp only [Prod.mk.injEq] at hx
      obtain ⟨hd0, -⟩ := hx
      subst hd0
      simp only [if_true] at hz
      have hs := sized_slice hsz (j := 3) (t := 22) (e := 5) rfl rfl Sagg.underlying22
      rw [bytes5] at hs
      simp only [lits, List.length_map, List.length_take, List.length_drop, reachBytes] at hs
      refine ⟨zs.take len3, by rw [List.length_take]; omega, hl, hm, by omega, ?_⟩
      refine ByteRow.take ⟨dig_of_wf hwz, ?_⟩ _
      rcases Nat.eq_zero_or_pos zs.length with h0 | h0
      · exact .inl (List.length_eq_zero_iff.1 h0)
      · obtain ⟨b, off, spot⟩ := x
        have hspot : spot = none := by simpa [Addr.add] using World.cell?_spot (hcell 0 h0)
        subst hspot
        exact .inr ⟨b, off, rfl, fun i hi => by rw [← add_plain]; exact hcell i hi⟩
  obtain ⟨a4, rfl, rfl, rfl, w4⟩ := open_int Sagg.underlying3 (hval 4 3 v4 rfl rfl) h4
  clear hA0 hval0
  have hb0 := bounds_u64 w0
  have hb1 := bounds_u64 w1
  have hb2 := bounds_u64 w2
  obtain ⟨x0, rfl⟩ := Int.eq_ofNat_of_zero_le hb0.1
  obtain ⟨x1, rfl⟩ := Int.eq_ofNat_of_zero_le hb1.1
  obtain ⟨x2, rfl⟩ := Int.eq_ofNat_of_zero_le hb2.1
  refine (numRight_core x0 x1 x2 a3 len3 cap3 a4 z3 W (by omega) (by omega) (by omega) hl3 hlc (by unfold maxLen at hm3; omega) (by omega) w3).mono fun e W' ⟨he, bel⟩ => ?_
  subst he
  exact ⟨_, rfl, _, _, _, [], _, [], hW', trodAll_mk1 (shut_bool Sagg.underlying4 _), (trodAll_cons_mk (shut_int Sagg.underlying31 w0) (trodAll_cons_mk (shut_int Sagg.underlying31 w1) (trodAll_cons_mk (shut_int Sagg.underlying31 w2) (trodAll_cons_mk (Below.trod laidOut (by kernel_rfl) (of_decide_eq_true (by kernel_rfl)) k3 bel lt3) (trodAll_cons_mk (shut_int Sagg.underlying3 w4) trodAll_mk0))))), rfl, bel.frame _, fun h => by cases h⟩

theorem over : Rows.numRightRow.holds Sagg.pinned (OpenSpec.ofChange Rows.numRightSpec) :=
  OpenClaim.holds_of_wide 4 Sagg.f4 rfl rfl rfl rfl rfl rfl rfl ⟨rfl, rfl, rfl, rfl, rfl⟩ rfl rfl rfl rfl rfl (by kernel_rfl) Sagg.func4 (by kernel_rfl)
    (of_decide_eq_true (by kernel_rfl)) (by unfold Func.isWrapper; first | (rw [if_pos (by decide +kernel)]; kernel_rfl) | (rw [if_neg (by decide +kernel)]; exact ⟨rfl, rfl⟩))
    (fun os started H enc _ => lifted os started H enc)

/-- ████ THE STATEMENT ████ -/
theorem proved : Rows.NumRightSaid := over
end Go.Proofs.Ygcsag.numRight
