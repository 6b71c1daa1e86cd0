/-
  THE PROOF OF 'Rows.DepositRightSaid' ('yellow/law.DepositRight').
-/
import Derived.Test.YgcsagGreatDpu
import Derived.Test.YgcsagGreatRead
import Derived.Test.YgcsagGreatRows
import Derived.ProofKit
import Derived.OpenShut
import Derived.ShutString
import Derived.ChangeOld
import Derived.SizedLaws
namespace Go.Proofs.YgcsagGreat.depositRight
open Go.ChangeShapes Go.WideShapes Go.ChangeAt Go.RowKit
set_option linter.unusedVariables false

theorem own : ownKnob Sagg.prog.godebug = none := by kernel_rfl
theorem laidOut : laidOutB Sagg.prog = true := by kernel_rfl
theorem read_of {H : Type} {enc : TypeId × Value → H} {w : World} {t : TypeId} {v : Value} {d : DataW H} {p : List MemPlace} (h : DataW.Trod enc Sagg.prog w 0 (fun _ => true) true t v d p) : Read Sagg.prog w t v.cells.toList := by
  obtain ⟨fuel, h⟩ := h
  exact ⟨H, enc, fuel, _, h⟩
theorem lt_of {H : Type} {enc : TypeId × Value → H} {w : World} {t : TypeId} {v : Value} {d : DataW H} {p : List MemPlace} (h : DataW.Trod enc Sagg.prog w 0 (fun _ => true) true t v d p) : ∀ x ∈ p, x.block < w.heap.size := by
  obtain ⟨m, hm⟩ := h
  exact DataW.trod_lt m _ _ _ hm
theorem rd79 : Sagg.prog.readableRec 79 = true := by kernel_rfl
theorem z79 : 79 < Sagg.prog.types.size := of_decide_eq_true (by kernel_rfl)
theorem rd5 : Sagg.prog.readableRec 5 = true := by kernel_rfl
theorem z5 : 5 < Sagg.prog.types.size := of_decide_eq_true (by kernel_rfl)
theorem rd80 : Sagg.prog.readableRec 80 = true := by kernel_rfl
theorem z80 : 80 < Sagg.prog.types.size := of_decide_eq_true (by kernel_rfl)
theorem again {H : Type} {enc : TypeId × Value → H} {w w' : World} {t : TypeId} {v : Value} {d : DataW H} {p : List MemPlace} (hr : Sagg.prog.readableRec t = true) (hz : t < Sagg.prog.types.size) (h : DataW.Trod enc Sagg.prog w 0 (fun _ => true) true t v d p) (hb : Below w.heap.size w w') :
    DataW.Trod enc Sagg.prog w' 0 (fun b => decide (b < w.heap.size)) true t v d p :=
  Below.trod laidOut hr hz h hb (lt_of h)

set_option maxRecDepth 100000 in
theorem lifted (os : Os) (started : os.Started) (H : Type) (enc : TypeId × Value → H) :
    ReturnsInHanded {} Sagg.checked os 9 .any (Rows.depositRightSpec.pre6 enc Sagg.prog Sagg.f9 Rows.depositRightRow.domain false) (Rows.depositRightSpec.post enc Sagg.prog Sagg.f9 false true false false) := by
  refine returnsInHanded_of_change_sized (C := Sagg.checked) own started (by kernel_rfl) Sagg.func9
    (ChangeSpec.witness6 (enc := enc) (C := Sagg.checked) false ⟨#[], #[.int .u16 0, .int .u8 0, .int .u32 0], []⟩ 8 (by kernel_rfl) (by kernel_rfl) (by kernel_rfl) (by kernel_rfl)) ?_
  intro W base args ds gs before hval0 hW hcnd hsz0 _
  have hval : ∀ (j : Nat) t v, Sagg.f9.params[j]? = some t → args[j]? = some v → Value.okWide Sagg.prog W .any base t v := hval0
  have hW' := hW
  obtain ⟨p, q, hA0, hV, rfl, hfz, hnd⟩ := hW
  have hA : DataW.TrodAll enc Sagg.prog W 0 (fun _ => true) true Sagg.f9.params.toList args.toList ds p := hA0
  rw [Sagg.params9] at hA hval
  obtain ⟨v0, vs0, d0, ds0, p0, q0, hargs, rfl, rfl, h0, r0⟩ := trodAll_cons hA
  obtain ⟨v1, vs1, d1, ds1, p1, q1, rfl, rfl, rfl, h1, r1⟩ := trodAll_cons r0
  obtain ⟨v2, vs2, d2, ds2, p2, q2, rfl, rfl, rfl, h2, r2⟩ := trodAll_cons r1
  obtain ⟨rfl, rfl, rfl⟩ := trodAll_nil r2
  obtain rfl : args = #[v0, v1, v2] := by cases args; simp_all
  obtain ⟨rfl, rfl⟩ := trodVars_none hV
  have k0 := h0
  have k1 := h1
  have k2 := h2
  obtain ⟨n, rfl, rfl, rfl, w0⟩ := open_int Sagg.underlying79 (hval 0 79 v0 rfl rfl) h0
  obtain ⟨first, rfl, rfl, rfl, w1⟩ := open_int Sagg.underlying5 (hval 1 5 v1 rfl rfl) h1
  obtain ⟨gas, rfl, rfl, rfl, w2⟩ := open_int Sagg.underlying80 (hval 2 80 v2 rfl rfl) h2
  have b0 := bounds_u16 w0
  have b1 := bounds_u8 w1
  have b2 := bounds_u32 w2
  clear hA0 hval0 hval
  refine (EX.dp_calls (by omega) (by omega) (by omega)).mono fun e W' ⟨he, bel⟩ => ?_
  subst he
  exact ⟨_, rfl, _, _, _, [], _, [], hW', trodAll_mk1 (shut_bool Sagg.underlying4 _),
    trodAll_cons_mk (again rd79 z79 k0 bel) (trodAll_cons_mk (again rd5 z5 k1 bel) (trodAll_cons_mk (again rd80 z80 k2 bel) trodAll_mk0)), rfl, bel.frame _, fun h => by cases h⟩

theorem over : Rows.depositRightRow.holds Sagg.pinned (OpenSpec.ofChange Rows.depositRightSpec) :=
  OpenClaim.holds_of_wide 9 Sagg.f9 rfl rfl rfl rfl rfl rfl rfl ⟨rfl, rfl, rfl, rfl, rfl⟩ rfl rfl rfl rfl rfl (by kernel_rfl) Sagg.func9 (by kernel_rfl)
    (of_decide_eq_true (by kernel_rfl)) (by unfold Func.isWrapper; first | (rw [if_pos (by decide +kernel)]; kernel_rfl) | (rw [if_neg (by decide +kernel)]; exact ⟨rfl, rfl⟩))
    (fun os started H enc _ => lifted os started H enc)

/-- ████ THE STATEMENT ████ -/
theorem proved : Rows.DepositRightSaid := over
end Go.Proofs.YgcsagGreat.depositRight
