/-
  THE PROOF OF 'Rows.TransientRightSaid' ('yellow/law.TransientRight').
-/
import Derived.Test.YgcsagGreatTru
import Derived.Test.YgcsagGreatRead
import Derived.Test.YgcsagGreatRows
import Derived.ProofKit
import Derived.OpenShut
import Derived.ShutString
import Derived.ChangeOld
import Derived.SizedLaws
namespace Go.Proofs.YgcsagGreat.transientRight
open Go.ChangeShapes Go.WideShapes Go.ChangeAt Go.RowKit
set_option linter.unusedVariables false

theorem own : ownKnob Sagg.prog.godebug = none := by kernel_rfl
theorem laidOut : laidOutB Sagg.prog = true := by kernel_rfl
theorem cellsOf5 : Sagg.prog.cellsOf 5 = 1 := by kernel_rfl
theorem cellsOf28 : Sagg.prog.cellsOf 28 = 32 := by kernel_rfl
theorem open28 {w : World} {cs : List Value} (h : Read Sagg.prog w 28 cs) : ∃ zs, cs = bcells zs ∧ zs.length = 32 ∧ Dig zs := h.bytes Sagg.underlying28 Sagg.underlying5 cellsOf5 cellsOf28
theorem read_of {H : Type} {enc : TypeId × Value → H} {w : World} {t : TypeId} {v : Value} {d : DataW H} {p : List MemPlace} (h : DataW.Trod enc Sagg.prog w 0 (fun _ => true) true t v d p) : Read Sagg.prog w t v.cells.toList := by
  obtain ⟨fuel, h⟩ := h
  exact ⟨H, enc, fuel, _, h⟩
theorem lt_of {H : Type} {enc : TypeId × Value → H} {w : World} {t : TypeId} {v : Value} {d : DataW H} {p : List MemPlace} (h : DataW.Trod enc Sagg.prog w 0 (fun _ => true) true t v d p) : ∀ x ∈ p, x.block < w.heap.size := by
  obtain ⟨m, hm⟩ := h
  exact DataW.trod_lt m _ _ _ hm
theorem rd5 : Sagg.prog.readableRec 5 = true := by kernel_rfl
theorem rd28 : Sagg.prog.readableRec 28 = true := by kernel_rfl
theorem z5 : 5 < Sagg.prog.types.size := of_decide_eq_true (by kernel_rfl)
theorem z28 : 28 < Sagg.prog.types.size := of_decide_eq_true (by kernel_rfl)
theorem again {H : Type} {enc : TypeId × Value → H} {w w' : World} {t : TypeId} {v : Value} {d : DataW H} {p : List MemPlace} (hr : Sagg.prog.readableRec t = true) (hz : t < Sagg.prog.types.size) (h : DataW.Trod enc Sagg.prog w 0 (fun _ => true) true t v d p) (hb : Below w.heap.size w w') :
    DataW.Trod enc Sagg.prog w' 0 (fun b => decide (b < w.heap.size)) true t v d p :=
  Below.trod laidOut hr hz h hb (lt_of h)
theorem okWide_array {P : Program} {w : World} {r : Reach} {base : Nat} {t : TypeId} {v : Value} {n : Nat} {e : TypeId} (ht : P.underlying t = some (.array n e)) (h : Value.okWide P w r base t v) : ∃ cs, v = .agg cs ∧ cs.size = P.cellsOf t := by
  simp only [Value.okWide, ht] at h
  obtain ⟨cs, h1, h2, _⟩ := h
  exact ⟨cs, h1, h2⟩
theorem row_of {c : Array Value} (h : ∃ zs, c.toList = bcells zs ∧ zs.length = 32 ∧ Dig zs) : ∃ f : Nat → Int, c = (EX.row32 f).toArray ∧ EX.AllIn (EX.l32 f) := by
  obtain ⟨zs, e, hl, hd⟩ := h
  have e32 : zs = (List.range 32).map fun j => zs.getD j 0 := by
    apply List.ext_getElem?
    intro i
    by_cases hi : i < 32
    · rw [List.getElem?_map, List.getElem?_range hi, List.getElem?_eq_getElem (by omega)]
      simp [List.getD_eq_getElem?_getD, show i < zs.length by omega]
    · rw [List.getElem?_eq_none (by omega), List.getElem?_eq_none (by simp; omega)]
  refine ⟨fun j => zs.getD j 0, ?_, ?_⟩
  · have : c = (bcells zs).toArray := by rw [← e]
    rw [this]
    congr 1
    have e2 := congrArg (List.map (Value.int .u8)) e32
    rw [List.map_map] at e2
    exact e2
  · unfold EX.l32
    rw [← e32]
    exact EX.allIn_of hd
def zeroA : Value := .agg (Array.replicate 32 (.int .u8 0))

set_option maxRecDepth 100000 in
theorem lifted (os : Os) (started : os.Started) (H : Type) (enc : TypeId × Value → H) :
    ReturnsInHanded {} Sagg.checked os 5 .any (Rows.transientRightSpec.pre6 enc Sagg.prog Sagg.f5 Rows.transientRightRow.domain false) (Rows.transientRightSpec.post enc Sagg.prog Sagg.f5 false true false false) := by
  refine returnsInHanded_of_change_sized (C := Sagg.checked) own started (by kernel_rfl) Sagg.func5
    (ChangeSpec.witness6 (enc := enc) (C := Sagg.checked) false ⟨#[], #[.int .u8 0, zeroA, zeroA, zeroA], []⟩ 8 (by kernel_rfl) (by kernel_rfl) (by kernel_rfl) (by kernel_rfl)) ?_
  intro W base args ds gs before hval0 hW hcnd hsz0 _
  have hval : ∀ (j : Nat) t v, Sagg.f5.params[j]? = some t → args[j]? = some v → Value.okWide Sagg.prog W .any base t v := hval0
  have hW' := hW
  obtain ⟨p, q, hA0, hV, rfl, hfz, hnd⟩ := hW
  have hA : DataW.TrodAll enc Sagg.prog W 0 (fun _ => true) true Sagg.f5.params.toList args.toList ds p := hA0
  rw [Sagg.params5] at hA hval
  obtain ⟨v0, vs0, d0, ds0, p0, q0, hargs, rfl, rfl, h0, r0⟩ := trodAll_cons hA
  obtain ⟨v1, vs1, d1, ds1, p1, q1, rfl, rfl, rfl, h1, r1⟩ := trodAll_cons r0
  obtain ⟨v2, vs2, d2, ds2, p2, q2, rfl, rfl, rfl, h2, r2⟩ := trodAll_cons r1
  obtain ⟨v3, vs3, d3, ds3, p3, q3, rfl, rfl, rfl, h3, r3⟩ := trodAll_cons r2
  obtain ⟨rfl, rfl, rfl⟩ := trodAll_nil r3
  obtain rfl : args = #[v0, v1, v2, v3] := by cases args; simp_all
  obtain ⟨rfl, rfl⟩ := trodVars_none hV
  have k0 := h0
  obtain ⟨kind, rfl, rfl, rfl, w0⟩ := open_int Sagg.underlying5 (hval 0 5 v0 rfl rfl) h0
  obtain ⟨c1, rfl, -⟩ := okWide_array Sagg.underlying28 (hval 1 28 v1 rfl rfl)
  obtain ⟨c2, rfl, -⟩ := okWide_array Sagg.underlying28 (hval 2 28 v2 rfl rfl)
  obtain ⟨c3, rfl, -⟩ := okWide_array Sagg.underlying28 (hval 3 28 v3 rfl rfl)
  obtain ⟨f1, e1, g1⟩ := row_of (open28 (cs := c1.toList) (read_of h1))
  obtain ⟨f2, e2, g2⟩ := row_of (open28 (cs := c2.toList) (read_of h2))
  obtain ⟨f3, e3, g3⟩ := row_of (open28 (cs := c3.toList) (read_of h3))
  subst e1 e2 e3
  have hb := bounds_u8 w0
  clear hA0 hval0 hval
  refine (EX.tr_calls (by omega) (by omega) g1 g2 g3 W).mono fun e W' ⟨he, bel⟩ => ?_
  subst he
  exact ⟨_, rfl, _, _, _, [], _, [], hW', trodAll_mk1 (shut_bool Sagg.underlying4 _),
    trodAll_cons_mk (again rd5 z5 k0 bel) (trodAll_cons_mk (again rd28 z28 h1 bel) (trodAll_cons_mk (again rd28 z28 h2 bel) (trodAll_cons_mk (again rd28 z28 h3 bel) trodAll_mk0))), rfl, bel.frame _, fun h => by cases h⟩

theorem over : Rows.transientRightRow.holds Sagg.pinned (OpenSpec.ofChange Rows.transientRightSpec) :=
  OpenClaim.holds_of_wide 5 Sagg.f5 rfl rfl rfl rfl rfl rfl rfl ⟨rfl, rfl, rfl, rfl, rfl⟩ rfl rfl rfl rfl rfl (by kernel_rfl) Sagg.func5 (by kernel_rfl)
    (of_decide_eq_true (by kernel_rfl)) (by unfold Func.isWrapper; first | (rw [if_pos (by decide +kernel)]; kernel_rfl) | (rw [if_neg (by decide +kernel)]; exact ⟨rfl, rfl⟩))
    (fun os started H enc _ => lifted os started H enc)

/-- ████ THE STATEMENT ████ -/
theorem proved : Rows.TransientRightSaid := over
end Go.Proofs.YgcsagGreat.transientRight
