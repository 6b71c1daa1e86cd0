/-
  THE PROOF OF 'Rows.WorldOKRightSaid' ('yellow/law.WorldOKRight').
-/
import Derived.Test.YgcsagWH
import Derived.Test.YgcsagOpenT
import Derived.Test.YgcsagRows
import Derived.ProofKit
import Derived.OpenShut
import Derived.ShutString
import Derived.ChangeOld
import Derived.SizedLaws
namespace Go.Proofs.Ygcsag.worldOKRight
open Go.ChangeShapes Go.WideShapes Go.ChangeAt Go.RowKit
set_option linter.unusedVariables false

theorem own : ownKnob Sagg.prog.godebug = none := by kernel_rfl
theorem laidOut : laidOutB Sagg.prog = true := by kernel_rfl

theorem read_of {H : Type} {enc : TypeId × Value → H} {w : World} {t : TypeId} {v : Value} {d : DataW H} {p : List MemPlace} (h : DataW.Trod enc Sagg.prog w 0 (fun _ => true) true t v d p) : Read Sagg.prog w t v.cells.toList := by
  obtain ⟨fuel, h⟩ := h
  exact ⟨H, enc, fuel, _, h⟩
theorem lt_of {H : Type} {enc : TypeId × Value → H} {w : World} {t : TypeId} {v : Value} {d : DataW H} {p : List MemPlace} (h : DataW.Trod enc Sagg.prog w 0 (fun _ => true) true t v d p) : ∀ x ∈ p, x.block < w.heap.size := by
  obtain ⟨m, hm⟩ := h
  exact DataW.trod_lt m _ _ _ hm
theorem rd62 : Sagg.prog.readableRec 62 = true := by kernel_rfl
theorem rd53 : Sagg.prog.readableRec 53 = true := by kernel_rfl
theorem again {H : Type} {enc : TypeId × Value → H} {w w' : World} {t : TypeId} {v : Value} {d : DataW H} {p : List MemPlace} (hr : Sagg.prog.readableRec t = true) (hz : t < Sagg.prog.types.size) (h : DataW.Trod enc Sagg.prog w 0 (fun _ => true) true t v d p) (hb : Below w.heap.size w w') :
    DataW.Trod enc Sagg.prog w' 0 (fun b => decide (b < w.heap.size)) true t v d p :=
  Below.trod laidOut hr hz h hb (lt_of h)
theorem z62 : 62 < Sagg.prog.types.size := of_decide_eq_true (by kernel_rfl)
theorem z53 : 53 < Sagg.prog.types.size := of_decide_eq_true (by kernel_rfl)

theorem open62 {w : World} {cs : List Value} (h : Read Sagg.prog w 62 cs) : cs.length = 120 ∧ ∃ ha hn hc, cs[119]? = some (.slice ha hn hc) := by
  have h0 : Read Sagg.prog w 49 ((cs.drop 119).take 1) := h.field Sagg.underlying62 7 _ rfl 1 (by kernel_rfl)
  have hl := (h.struct Sagg.underlying62).1
  rw [show Sagg.prog.cellsOf 62 = 120 by kernel_rfl] at hl
  obtain ⟨a, n, c, zs, e, _⟩ := open49 h0
  refine ⟨hl, a, n, c, ?_⟩
  have h1 : ((cs.drop 119).take 1)[0]? = some (.slice a n c) := by rw [e]; rfl
  rw [List.getElem?_take, if_pos (by omega), List.getElem?_drop] at h1
  exact h1
def zeroBytes (n : Nat) : Array Value := Array.replicate n (.int .u8 0)
def zeroE : Value := .agg (zeroBytes 20 ++ #[.int .u64 0, .int .u64 0, .int .u64 0] ++ zeroBytes 96 ++ #[.slice none 0 0])

set_option maxRecDepth 100000 in
theorem lifted (os : Os) (started : os.Started) (H : Type) (enc : TypeId × Value → H) :
    ReturnsInHanded {} Sagg.checked os 6 .any (Rows.worldOKRightSpec.pre6 enc Sagg.prog Sagg.f6 Rows.worldOKRightRow.domain false) (Rows.worldOKRightSpec.post enc Sagg.prog Sagg.f6 false true false false) := by
  refine returnsInHanded_of_change_sized (C := Sagg.checked) own started (by kernel_rfl) Sagg.func6
    (ChangeSpec.witness6 (enc := enc) (C := Sagg.checked) false ⟨#[], #[.slice none 0 0, zeroE], []⟩ 8 (by kernel_rfl) (by kernel_rfl) (by kernel_rfl) (by kernel_rfl)) ?_
  intro W base args ds gs before hval0 hW hcnd hsz0 _
  have hval : ∀ (j : Nat) t v, Sagg.f6.params[j]? = some t → args[j]? = some v → Value.okWide Sagg.prog W .any base t v := hval0
  have hW' := hW
  obtain ⟨p, q, hA0, hV, rfl, hfz, hnd⟩ := hW
  have hA : DataW.TrodAll enc Sagg.prog W 0 (fun _ => true) true Sagg.f6.params.toList args.toList ds p := hA0
  rw [Sagg.params6] at hA hval
  obtain ⟨v0, vs0, d0, ds0, p0, q0, hargs, rfl, rfl, h0, r0⟩ := trodAll_cons hA
  obtain ⟨v1, vs1, d1, ds1, p1, q1, rfl, rfl, rfl, h1, r1⟩ := trodAll_cons r0
  obtain ⟨rfl, rfl, rfl⟩ := trodAll_nil r1
  obtain rfl : args = #[v0, v1] := by cases args; simp_all
  obtain ⟨rfl, rfl⟩ := trodVars_none hV
  obtain ⟨a4, n4, k4, rfl⟩ := okWide_slice Sagg.underlying53 (hval 0 53 v0 rfl rfl)
  obtain ⟨c1, rfl, -⟩ := okWide_struct Sagg.underlying62 (hval 1 62 v1 rfl rfl)
  obtain ⟨b4, l4, g4, L1, e5, t4, t4', ll4, ok5⟩ := open53 (cs := [.slice a4 n4 k4]) (read_of h0)
  obtain ⟨z1, ha, hn, hc, he⟩ := open62 (cs := c1.toList) (read_of h1)
  simp only [List.cons.injEq, Value.slice.injEq, and_true] at e5
  obtain ⟨rfl, rfl, rfl⟩ := e5
  clear hA0 hval0 hval
  refine (worldOKRight_calls (ha := ha) (hn := hn) (hc := hc) W ll4 (by unfold maxLen at t4'; omega) ok5 (by simpa using z1) (by simpa using he)).mono fun e W' ⟨he, bel⟩ => ?_
  subst he
  exact ⟨_, rfl, _, _, _, [], _, [], hW', trodAll_mk1 (shut_bool Sagg.underlying4 _), trodAll_cons_mk (again rd53 z53 h0 bel) (trodAll_cons_mk (again rd62 z62 h1 bel) trodAll_mk0), rfl, bel.frame _, fun h => by cases h⟩

theorem over : Rows.worldOKRightRow.holds Sagg.pinned (OpenSpec.ofChange Rows.worldOKRightSpec) :=
  OpenClaim.holds_of_wide 6 Sagg.f6 rfl rfl rfl rfl rfl rfl rfl ⟨rfl, rfl, rfl, rfl, rfl⟩ rfl rfl rfl rfl rfl (by kernel_rfl) Sagg.func6 (by kernel_rfl)
    (of_decide_eq_true (by kernel_rfl)) (by unfold Func.isWrapper; first | (rw [if_pos (by decide +kernel)]; kernel_rfl) | (rw [if_neg (by decide +kernel)]; exact ⟨rfl, rfl⟩))
    (fun os started H enc _ => lifted os started H enc)

/-- ████ THE STATEMENT ████ -/
theorem proved : Rows.WorldOKRightSaid := over
end Go.Proofs.Ygcsag.worldOKRight
