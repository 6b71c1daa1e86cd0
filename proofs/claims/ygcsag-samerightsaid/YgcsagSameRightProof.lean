/-
  THE PROOF OF 'Rows.SameRightSaid' ('yellow/law.SameRight').
-/
import Derived.Test.YgcsagSameI
import Derived.Test.YgcsagRows
import Derived.ProofKit
import Derived.OpenShut
import Derived.ShutString
import Derived.ChangeOld
import Derived.SizedLaws
namespace Go.Proofs.Ygcsag.sameRight
open Go.ChangeShapes Go.WideShapes Go.ChangeAt Go.RowKit
set_option linter.unusedVariables false

theorem own : ownKnob Sagg.prog.godebug = none := by kernel_rfl
theorem laidOut : laidOutB Sagg.prog = true := by kernel_rfl

theorem read_of {H : Type} {enc : TypeId × Value → H} {w : World} {t : TypeId} {v : Value} {d : DataW H} {p : List MemPlace} (h : DataW.Trod enc Sagg.prog w 0 (fun _ => true) true t v d p) : Read Sagg.prog w t v.cells.toList := by
  obtain ⟨fuel, h⟩ := h
  exact ⟨H, enc, fuel, _, h⟩
theorem lt_of {H : Type} {enc : TypeId × Value → H} {w : World} {t : TypeId} {v : Value} {d : DataW H} {p : List MemPlace} (h : DataW.Trod enc Sagg.prog w 0 (fun _ => true) true t v d p) : ∀ x ∈ p, x.block < w.heap.size := by
  obtain ⟨m, hm⟩ := h
  exact DataW.trod_lt m _ _ _ hm
theorem rd48 : Sagg.prog.readableRec 48 = true := by kernel_rfl
theorem rd51 : Sagg.prog.readableRec 51 = true := by kernel_rfl
theorem rd53 : Sagg.prog.readableRec 53 = true := by kernel_rfl
theorem again {H : Type} {enc : TypeId × Value → H} {w w' : World} {t : TypeId} {v : Value} {d : DataW H} {p : List MemPlace} (hr : Sagg.prog.readableRec t = true) (hz : t < Sagg.prog.types.size) (h : DataW.Trod enc Sagg.prog w 0 (fun _ => true) true t v d p) (hb : Below w.heap.size w w') :
    DataW.Trod enc Sagg.prog w' 0 (fun b => decide (b < w.heap.size)) true t v d p :=
  Below.trod laidOut hr hz h hb (lt_of h)
theorem z48 : 48 < Sagg.prog.types.size := of_decide_eq_true (by kernel_rfl)
theorem z51 : 51 < Sagg.prog.types.size := of_decide_eq_true (by kernel_rfl)
theorem z53 : 53 < Sagg.prog.types.size := of_decide_eq_true (by kernel_rfl)

def zeroBytes (n : Nat) : Array Value := Array.replicate n (.int .u8 0)
def zeroR : Value := .agg (#[.int .u8 0, .int .u8 0, .int .u64 0, .slice none 0 0, .slice none 0 0] ++ zeroBytes 20)
def zeroV : Value := .agg (#[.bool false, .bool false, .int .u8 0, .int .u16 0, .int .u64 0, .int .u64 0] ++ zeroBytes 40 ++ #[.slice none 0 0, .slice none 0 0, .slice none 0 0, .int .u16 0])

set_option maxRecDepth 100000 in
theorem lifted (os : Os) (started : os.Started) (H : Type) (enc : TypeId × Value → H) :
    ReturnsInHanded {} Sagg.checked os 5 .any (Rows.sameRightSpec.pre6 enc Sagg.prog Sagg.f5 Rows.sameRightRow.domain false) (Rows.sameRightSpec.post enc Sagg.prog Sagg.f5 false true false false) := by
  refine returnsInHanded_of_change_sized (C := Sagg.checked) own started (by kernel_rfl) Sagg.func5
    (ChangeSpec.witness6 (enc := enc) (C := Sagg.checked) false ⟨#[], #[zeroR, zeroR, zeroV, zeroV, .slice none 0 0, .slice none 0 0], []⟩ 8 (by kernel_rfl) (by kernel_rfl) (by kernel_rfl) (by kernel_rfl)) ?_
  intro W base args ds gs before hval0 hW hcnd hsz0 _
  have hval : ∀ (j : Nat) t v, Sagg.f5.params[j]? = some t → args[j]? = some v → Value.okWide Sagg.prog W .any base t v := hval0
  have hW' := hW
  obtain ⟨p, q, hA0, hV, rfl, hfz, hnd⟩ := hW
  have hA : DataW.TrodAll enc Sagg.prog W 0 (fun _ => true) true Sagg.f5.params.toList args.toList ds p := hA0
  rw [Sagg.params5] at hA hval
  obtain ⟨v0, vs0, d0, ds0, p0, q0, hargs, rfl, rfl, h0, r0⟩ := trodAll_cons hA
  obtain ⟨v1, vs1, d1, ds1, p1, q1, rfl, rfl, rfl, h1, r1⟩ := trodAll_cons r0
  obtain ⟨v2, vs2, d2, ds2, p2, q2, rfl, rfl, rfl, h2, r2⟩ := trodAll_cons r1
  obtain ⟨v3, vs3, d3, ds3, p3, q3, rfl, rfl, rfl, h3, r3⟩ := trodAll_cons r2
  obtain ⟨v4, vs4, d4, ds4, p4, q4, rfl, rfl, rfl, h4, r4⟩ := trodAll_cons r3
  obtain ⟨v5, vs5, d5, ds5, p5, q5, rfl, rfl, rfl, h5, r5⟩ := trodAll_cons r4
  obtain ⟨rfl, rfl, rfl⟩ := trodAll_nil r5
  obtain rfl : args = #[v0, v1, v2, v3, v4, v5] := by cases args; simp_all
  obtain ⟨rfl, rfl⟩ := trodVars_none hV
  obtain ⟨c0, rfl, -⟩ := okWide_struct Sagg.underlying48 (hval 0 48 v0 rfl rfl)
  obtain ⟨c1, rfl, -⟩ := okWide_struct Sagg.underlying48 (hval 1 48 v1 rfl rfl)
  obtain ⟨c2, rfl, -⟩ := okWide_struct Sagg.underlying51 (hval 2 51 v2 rfl rfl)
  obtain ⟨c3, rfl, -⟩ := okWide_struct Sagg.underlying51 (hval 3 51 v3 rfl rfl)
  obtain ⟨a4, n4, k4, rfl⟩ := okWide_slice Sagg.underlying53 (hval 4 53 v4 rfl rfl)
  obtain ⟨a5, n5, k5, rfl⟩ := okWide_slice Sagg.underlying53 (hval 5 53 v5 rfl rfl)
  obtain ⟨R1, oa1, on1, oc1, la1, ln1, lc1, e1, ok1⟩ := open48 (cs := c0.toList) (read_of h0)
  obtain ⟨R2, oa2, on2, oc2, la2, ln2, lc2, e2, ok2⟩ := open48 (cs := c1.toList) (read_of h1)
  obtain ⟨V1, sa1, sn1, sc1, ma1, mn1, mc1, ra1, rn1, rc1, e3, ok3⟩ := open51 (cs := c2.toList) (read_of h2)
  obtain ⟨V2, sa2, sn2, sc2, ma2, mn2, mc2, ra2, rn2, rc2, e4, ok4⟩ := open51 (cs := c3.toList) (read_of h3)
  obtain ⟨b4, l4, g4, L1, e5, t4, t4', ll4, ok5⟩ := open53 (cs := [.slice a4 n4 k4]) (read_of h4)
  obtain ⟨b5, l5, g5, L2, e6, t5, t5', ll5, ok6⟩ := open53 (cs := [.slice a5 n5 k5]) (read_of h5)
  simp only [List.cons.injEq, Value.slice.injEq, and_true] at e5 e6
  obtain ⟨rfl, rfl, rfl⟩ := e5
  obtain ⟨rfl, rfl, rfl⟩ := e6
  obtain rfl : c0 = (rc R1 oa1 on1 oc1 la1 ln1 lc1).toArray := by rw [← e1]
  obtain rfl : c1 = (rc R2 oa2 on2 oc2 la2 ln2 lc2).toArray := by rw [← e2]
  obtain rfl : c2 = (vcells V1 sa1 sn1 sc1 ma1 mn1 mc1 ra1 rn1 rc1).toArray := by rw [← e3]
  obtain rfl : c3 = (vcells V2 sa2 sn2 sc2 ma2 mn2 mc2 ra2 rn2 rc2).toArray := by rw [← e4]
  clear hA0 hval0 hval
  refine (sameRight_calls W ok1 ok2 ok3 ok4 ll4 ll5 (by unfold maxLen at t4'; omega) ok5 ok6).mono fun e W' ⟨he, bel⟩ => ?_
  subst he
  exact ⟨_, rfl, _, _, _, [], _, [], hW', trodAll_mk1 (shut_bool Sagg.underlying4 _),
    trodAll_cons_mk (again rd48 z48 h0 bel) (trodAll_cons_mk (again rd48 z48 h1 bel) (trodAll_cons_mk (again rd51 z51 h2 bel) (trodAll_cons_mk (again rd51 z51 h3 bel) (trodAll_cons_mk (again rd53 z53 h4 bel) (trodAll_cons_mk (again rd53 z53 h5 bel) trodAll_mk0))))), rfl, bel.frame _, fun h => by cases h⟩

theorem over : Rows.sameRightRow.holds Sagg.pinned (OpenSpec.ofChange Rows.sameRightSpec) :=
  OpenClaim.holds_of_wide 5 Sagg.f5 rfl rfl rfl rfl rfl rfl rfl ⟨rfl, rfl, rfl, rfl, rfl⟩ rfl rfl rfl rfl rfl (by kernel_rfl) Sagg.func5 (by kernel_rfl)
    (of_decide_eq_true (by kernel_rfl)) (by unfold Func.isWrapper; first | (rw [if_pos (by decide +kernel)]; kernel_rfl) | (rw [if_neg (by decide +kernel)]; exact ⟨rfl, rfl⟩))
    (fun os started H enc _ => lifted os started H enc)

/-- ████ THE STATEMENT ████ -/
theorem proved : Rows.SameRightSaid := over
end Go.Proofs.Ygcsag.sameRight
