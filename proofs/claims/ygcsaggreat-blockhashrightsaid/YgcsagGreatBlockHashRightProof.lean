/-
  THE PROOF OF 'Rows.BlockHashRightSaid' ('yellow/law.BlockHashRight').
-/
import Derived.Test.YgcsagGreatBhu
import Derived.Test.YgcsagGreatRead
import Derived.Test.YgcsagGreatRows
import Derived.ProofKit
import Derived.OpenShut
import Derived.ShutString
import Derived.ChangeOld
import Derived.SizedLaws
namespace Go.Proofs.YgcsagGreat.blockHashRight
open Go.ChangeShapes Go.WideShapes Go.ChangeAt Go.RowKit
set_option linter.unusedVariables false

theorem own : ownKnob Sagg.prog.godebug = none := by kernel_rfl
theorem laidOut : laidOutB Sagg.prog = true := by kernel_rfl
theorem cellsOf5 : Sagg.prog.cellsOf 5 = 1 := by kernel_rfl
theorem cellsOf28 : Sagg.prog.cellsOf 28 = 32 := by kernel_rfl
theorem open28 {w : World} {cs : List Value} (h : Read Sagg.prog w 28 cs) : ∃ zs, cs = bcells zs ∧ zs.length = 32 ∧ Dig zs := h.bytes Sagg.underlying28 Sagg.underlying5 cellsOf5 cellsOf28
theorem open65 {w : World} {cs : List Value} (h : Read Sagg.prog w 65 cs) : ∃ a len cap zs, cs = [.slice a len cap] ∧ len ≤ cap ∧ cap ≤ maxLen ∧ zs.length = 32 * len ∧ ByteRow w a zs :=
  h.flat Sagg.underlying65 cellsOf28 (by omega) (fun cs hcs => by obtain ⟨zs, h1, _, h3⟩ := open28 hcs; exact ⟨zs, h1, h3⟩)

theorem read_of {H : Type} {enc : TypeId × Value → H} {w : World} {t : TypeId} {v : Value} {d : DataW H} {p : List MemPlace} (h : DataW.Trod enc Sagg.prog w 0 (fun _ => true) true t v d p) : Read Sagg.prog w t v.cells.toList := by
  obtain ⟨fuel, h⟩ := h
  exact ⟨H, enc, fuel, _, h⟩
theorem lt_of {H : Type} {enc : TypeId × Value → H} {w : World} {t : TypeId} {v : Value} {d : DataW H} {p : List MemPlace} (h : DataW.Trod enc Sagg.prog w 0 (fun _ => true) true t v d p) : ∀ x ∈ p, x.block < w.heap.size := by
  obtain ⟨m, hm⟩ := h
  exact DataW.trod_lt m _ _ _ hm
theorem rd27 : Sagg.prog.readableRec 27 = true := by kernel_rfl
theorem rd65 : Sagg.prog.readableRec 65 = true := by kernel_rfl
theorem rd28 : Sagg.prog.readableRec 28 = true := by kernel_rfl
theorem z27 : 27 < Sagg.prog.types.size := of_decide_eq_true (by kernel_rfl)
theorem z65 : 65 < Sagg.prog.types.size := of_decide_eq_true (by kernel_rfl)
theorem z28 : 28 < Sagg.prog.types.size := of_decide_eq_true (by kernel_rfl)
theorem again {H : Type} {enc : TypeId × Value → H} {w w' : World} {t : TypeId} {v : Value} {d : DataW H} {p : List MemPlace} (hr : Sagg.prog.readableRec t = true) (hz : t < Sagg.prog.types.size) (h : DataW.Trod enc Sagg.prog w 0 (fun _ => true) true t v d p) (hb : Below w.heap.size w w') :
    DataW.Trod enc Sagg.prog w' 0 (fun b => decide (b < w.heap.size)) true t v d p :=
  Below.trod laidOut hr hz h hb (lt_of h)
theorem okWide_array {P : Program} {w : World} {r : Reach} {base : Nat} {t : TypeId} {v : Value} {n : Nat} {e : TypeId} (ht : P.underlying t = some (.array n e)) (h : Value.okWide P w r base t v) : ∃ cs, v = .agg cs ∧ cs.size = P.cellsOf t := by
  simp only [Value.okWide, ht] at h
  obtain ⟨cs, h1, h2, _⟩ := h
  exact ⟨cs, h1, h2⟩
def zeroA : Value := .agg (Array.replicate 32 (.int .u8 0))

set_option maxRecDepth 100000 in
theorem lifted (os : Os) (started : os.Started) (H : Type) (enc : TypeId × Value → H) :
    ReturnsInHanded {} Sagg.checked os 7 .any (Rows.blockHashRightSpec.pre6 enc Sagg.prog Sagg.f7 Rows.blockHashRightRow.domain false) (Rows.blockHashRightSpec.post enc Sagg.prog Sagg.f7 false true false false) := by
  refine returnsInHanded_of_change_sized (C := Sagg.checked) own started (by kernel_rfl) Sagg.func7
    (ChangeSpec.witness6 (enc := enc) (C := Sagg.checked) false ⟨#[], #[.int .u64 0, .slice none 0 0, zeroA], []⟩ 8 (by kernel_rfl) (by kernel_rfl) (by kernel_rfl) (by kernel_rfl)) ?_
  intro W base args ds gs before hval0 hW hcnd hsz0 _
  have hval : ∀ (j : Nat) t v, Sagg.f7.params[j]? = some t → args[j]? = some v → Value.okWide Sagg.prog W .any base t v := hval0
  have hW' := hW
  obtain ⟨p, q, hA0, hV, rfl, hfz, hnd⟩ := hW
  have hA : DataW.TrodAll enc Sagg.prog W 0 (fun _ => true) true Sagg.f7.params.toList args.toList ds p := hA0
  rw [Sagg.params7] at hA hval
  obtain ⟨v0, vs0, d0, ds0, p0, q0, hargs, rfl, rfl, h0, r0⟩ := trodAll_cons hA
  obtain ⟨v1, vs1, d1, ds1, p1, q1, rfl, rfl, rfl, h1, r1⟩ := trodAll_cons r0
  obtain ⟨v2, vs2, d2, ds2, p2, q2, rfl, rfl, rfl, h2, r2⟩ := trodAll_cons r1
  obtain ⟨rfl, rfl, rfl⟩ := trodAll_nil r2
  obtain rfl : args = #[v0, v1, v2] := by cases args; simp_all
  obtain ⟨rfl, rfl⟩ := trodVars_none hV
  have k0 := h0
  obtain ⟨num, rfl, rfl, rfl, w0⟩ := open_int Sagg.underlying27 (hval 0 27 v0 rfl rfl) h0
  obtain ⟨a1, n1, c1, rfl⟩ := okWide_slice Sagg.underlying65 (hval 1 65 v1 rfl rfl)
  obtain ⟨c2, rfl, -⟩ := okWide_array Sagg.underlying28 (hval 2 28 v2 rfl rfl)
  obtain ⟨b1, l1, g1, zs, e1, t1, t1', ll1, row1⟩ := open65 (cs := [.slice a1 n1 c1]) (read_of h1)
  obtain ⟨az, e2, la, da⟩ := open28 (cs := c2.toList) (read_of h2)
  simp only [List.cons.injEq, Value.slice.injEq, and_true] at e1
  obtain ⟨rfl, rfl, rfl⟩ := e1
  obtain rfl : c2 = (bcells az).toArray := by rw [← e2]
  have hb := bounds_u64 w0
  clear hA0 hval0 hval
  refine (EX.bh_calls a1 n1 c1 zs az num (by omega) t1 ll1 row1 la da).mono fun e W' ⟨he, bel⟩ => ?_
  subst he
  exact ⟨_, rfl, _, _, _, [], _, [], hW', trodAll_mk1 (shut_bool Sagg.underlying4 _),
    trodAll_cons_mk (again rd27 z27 k0 bel) (trodAll_cons_mk (again rd65 z65 h1 bel) (trodAll_cons_mk (again rd28 z28 h2 bel) trodAll_mk0)), rfl, bel.frame _, fun h => by cases h⟩

theorem over : Rows.blockHashRightRow.holds Sagg.pinned (OpenSpec.ofChange Rows.blockHashRightSpec) :=
  OpenClaim.holds_of_wide 7 Sagg.f7 rfl rfl rfl rfl rfl rfl rfl ⟨rfl, rfl, rfl, rfl, rfl⟩ rfl rfl rfl rfl rfl (by kernel_rfl) Sagg.func7 (by kernel_rfl)
    (of_decide_eq_true (by kernel_rfl)) (by unfold Func.isWrapper; first | (rw [if_pos (by decide +kernel)]; kernel_rfl) | (rw [if_neg (by decide +kernel)]; exact ⟨rfl, rfl⟩))
    (fun os started H enc _ => lifted os started H enc)

/-- ████ THE STATEMENT ████ -/
theorem proved : Rows.BlockHashRightSaid := over
end Go.Proofs.YgcsagGreat.blockHashRight
