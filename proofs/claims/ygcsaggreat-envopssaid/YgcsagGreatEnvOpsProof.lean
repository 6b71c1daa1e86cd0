/-
  THE PROOF OF 'Rows.EnvOpsSaid' ('yellow/law.EnvOps').
-/
import Derived.Test.YgcsagGreatEnu
import Derived.Test.YgcsagGreatRead
import Derived.Test.YgcsagGreatRows
import Derived.ProofKit
import Derived.OpenShut
import Derived.ShutString
import Derived.ChangeOld
import Derived.SizedLaws
namespace Go.Proofs.YgcsagGreat.envOps
open Go.ChangeShapes Go.WideShapes Go.ChangeAt Go.RowKit
set_option linter.unusedVariables false
set_option linter.unusedSimpArgs false

theorem own : ownKnob Sagg.prog.godebug = none := by kernel_rfl
theorem laidOut : laidOutB Sagg.prog = true := by kernel_rfl
theorem cellsOf5 : Sagg.prog.cellsOf 5 = 1 := by kernel_rfl
theorem cellsOf24 : Sagg.prog.cellsOf 24 = 20 := by kernel_rfl
theorem cellsOf29 : Sagg.prog.cellsOf 29 = 32 := by kernel_rfl
theorem cellsOf68 : Sagg.prog.cellsOf 68 = 120 := by kernel_rfl
theorem fieldR {P : Program} {w : World} {t : TypeId} {cs : List Value} {fs : Array Field} (ht : P.underlying t = some (.struct fs)) (h : Read P w t cs) (i : Nat) (f : Field) (hf : fs[i]? = some f) (c : Nat) (hc : P.cellsOf f.type = c) :
    Read P w f.type ((cs.drop f.offset).take c) := by
  have := (h.struct ht).2 i f hf
  rwa [hc] at this
theorem cut_at {cs x : List Value} (o c n : Nat) (hn : o + c = n) (hx : (cs.drop o).take c = x) : cs.drop o = x ++ cs.drop n := by
  rw [← hx, ← hn, ← List.drop_drop, List.take_append_drop]
theorem open24 {w : World} {cs : List Value} (h : Read Sagg.prog w 24 cs) : ∃ zs, cs = bcells zs ∧ zs.length = 20 ∧ Dig zs := h.bytes Sagg.underlying24 Sagg.underlying5 cellsOf5 cellsOf24
theorem open29 {w : World} {cs : List Value} (h : Read Sagg.prog w 29 cs) : ∃ zs, cs = bcells zs ∧ zs.length = 32 ∧ Dig zs := h.bytes Sagg.underlying29 Sagg.underlying5 cellsOf5 cellsOf29
theorem open66 {w : World} {cs : List Value} (h : Read Sagg.prog w 66 cs) : ∃ a len cap zs, cs = [.slice a len cap] ∧ len ≤ cap ∧ cap ≤ maxLen ∧ zs.length = 32 * len ∧ ByteRow w a zs :=
  h.flat Sagg.underlying66 cellsOf29 (by omega) (fun cs hcs => by obtain ⟨zs, h1, _, h3⟩ := open29 hcs; exact ⟨zs, h1, h3⟩)
theorem fun_of {zs : List Int} {n : Nat} (hl : zs.length = n) : zs = (List.range n).map fun j => zs.getD j 0 := by
  apply List.ext_getElem?
  intro i
  by_cases hi : i < n
  · rw [List.getElem?_map, List.getElem?_range hi, List.getElem?_eq_getElem (by omega)]
    simp [List.getD_eq_getElem?_getD, show i < zs.length by omega]
  · rw [List.getElem?_eq_none (by omega), List.getElem?_eq_none (by simp; omega)]
theorem open68 {w : World} {cs : List Value} (h : Read Sagg.prog w 68 cs) : ∃ ha hl hc, ∃ cb ra ci bf : Nat → Int, ∃ nu ti gl : Int, ∃ zs : List Int, cs.toArray = EX.envA ha hl hc cb ra ci bf nu ti gl ∧ EX.AllIn (EX.l20 cb) ∧ EX.AllIn (EX.l32 ra) ∧ EX.AllIn (EX.l32 ci) ∧ EX.AllIn (EX.l32 bf) ∧
    (0 ≤ nu ∧ nu < 18446744073709551616) ∧ (0 ≤ ti ∧ ti < 18446744073709551616) ∧ (0 ≤ gl ∧ gl < 18446744073709551616) ∧ zs.length = 32 * hl ∧ ByteRow w ha zs := by
  have h0 : Read Sagg.prog w 24 ((cs.drop 0).take 20) := fieldR Sagg.underlying68 h 0 _ rfl 20 cellsOf24
  have h1 : Read Sagg.prog w 27 ((cs.drop 20).take 1) := fieldR Sagg.underlying68 h 1 _ rfl 1 (by kernel_rfl)
  have h2 : Read Sagg.prog w 27 ((cs.drop 21).take 1) := fieldR Sagg.underlying68 h 2 _ rfl 1 (by kernel_rfl)
  have h3 : Read Sagg.prog w 27 ((cs.drop 22).take 1) := fieldR Sagg.underlying68 h 3 _ rfl 1 (by kernel_rfl)
  have h4 : Read Sagg.prog w 29 ((cs.drop 23).take 32) := fieldR Sagg.underlying68 h 4 _ rfl 32 cellsOf29
  have h5 : Read Sagg.prog w 29 ((cs.drop 55).take 32) := fieldR Sagg.underlying68 h 5 _ rfl 32 cellsOf29
  have h6 : Read Sagg.prog w 29 ((cs.drop 87).take 32) := fieldR Sagg.underlying68 h 6 _ rfl 32 cellsOf29
  have h7 : Read Sagg.prog w 66 ((cs.drop 119).take 1) := fieldR Sagg.underlying68 h 7 _ rfl 1 (by kernel_rfl)
  have hl := (h.struct Sagg.underlying68).1
  rw [cellsOf68] at hl
  obtain ⟨x0, e0, l0, d0⟩ := open24 h0
  obtain ⟨nu, e1, b1⟩ := h1.int Sagg.underlying27
  obtain ⟨ti, e2, b2⟩ := h2.int Sagg.underlying27
  obtain ⟨gl, e3, b3⟩ := h3.int Sagg.underlying27
  obtain ⟨x4, e4, l4, d4⟩ := open29 h4
  obtain ⟨x5, e5, l5, d5⟩ := open29 h5
  obtain ⟨x6, e6, l6, d6⟩ := open29 h6
  obtain ⟨ha, hn, hc, zs, e7, t1, t2, t3, t4⟩ := open66 h7
  have e : cs.drop 0 = bcells x0 ++ ([.int .u64 nu] ++ ([.int .u64 ti] ++ ([.int .u64 gl] ++ (bcells x4 ++ (bcells x5 ++ (bcells x6 ++ ([.slice ha hn hc] ++ cs.drop 120))))))) := by
    rw [cut_at 0 20 20 rfl e0, cut_at 20 1 21 rfl e1, cut_at 21 1 22 rfl e2, cut_at 22 1 23 rfl e3, cut_at 23 32 55 rfl e4, cut_at 55 32 87 rfl e5, cut_at 87 32 119 rfl e6, cut_at 119 1 120 rfl e7]
  rw [List.drop_zero, List.drop_eq_nil_of_le (i := 120) (by omega), List.append_nil] at e
  have f0 := fun_of l0
  have f4 := fun_of l4
  have f5 := fun_of l5
  have f6 := fun_of l6
  have c1 := bounds_u64 b1
  have c2 := bounds_u64 b2
  have c3 := bounds_u64 b3
  refine ⟨ha, hn, hc, fun j => x0.getD j 0, fun j => x4.getD j 0, fun j => x5.getD j 0, fun j => x6.getD j 0, nu, ti, gl, zs, ?_, ?_, ?_, ?_, ?_, by omega, by omega, by omega, t3, t4⟩
  · rw [e]
    unfold EX.envA EX.l20 EX.l32
    rw [← f0, ← f4, ← f5, ← f6]
    rfl
  · unfold EX.l20; rw [← f0]; exact EX.allIn_of d0
  · unfold EX.l32; rw [← f4]; exact EX.allIn_of d4
  · unfold EX.l32; rw [← f5]; exact EX.allIn_of d5
  · unfold EX.l32; rw [← f6]; exact EX.allIn_of d6
theorem read_of {H : Type} {enc : TypeId × Value → H} {w : World} {t : TypeId} {v : Value} {d : DataW H} {p : List MemPlace} (h : DataW.Trod enc Sagg.prog w 0 (fun _ => true) true t v d p) : Read Sagg.prog w t v.cells.toList := by
  obtain ⟨fuel, h⟩ := h
  exact ⟨H, enc, fuel, _, h⟩
theorem lt_of {H : Type} {enc : TypeId × Value → H} {w : World} {t : TypeId} {v : Value} {d : DataW H} {p : List MemPlace} (h : DataW.Trod enc Sagg.prog w 0 (fun _ => true) true t v d p) : ∀ x ∈ p, x.block < w.heap.size := by
  obtain ⟨m, hm⟩ := h
  exact DataW.trod_lt m _ _ _ hm
theorem rd5 : Sagg.prog.readableRec 5 = true := by kernel_rfl
theorem rd68 : Sagg.prog.readableRec 68 = true := by kernel_rfl
theorem z5 : 5 < Sagg.prog.types.size := of_decide_eq_true (by kernel_rfl)
theorem z68 : 68 < Sagg.prog.types.size := of_decide_eq_true (by kernel_rfl)
theorem again {H : Type} {enc : TypeId × Value → H} {w w' : World} {t : TypeId} {v : Value} {d : DataW H} {p : List MemPlace} (hr : Sagg.prog.readableRec t = true) (hz : t < Sagg.prog.types.size) (h : DataW.Trod enc Sagg.prog w 0 (fun _ => true) true t v d p) (hb : Below w.heap.size w w') :
    DataW.Trod enc Sagg.prog w' 0 (fun b => decide (b < w.heap.size)) true t v d p :=
  Below.trod laidOut hr hz h hb (lt_of h)
theorem okWide_struct {P : Program} {w : World} {r : Reach} {base : Nat} {t : TypeId} {v : Value} {fs : Array Field} (ht : P.underlying t = some (.struct fs)) (h : Value.okWide P w r base t v) : ∃ cs, v = .agg cs ∧ cs.size = P.cellsOf t := by
  simp only [Value.okWide, ht] at h
  obtain ⟨cs, h1, h2, _⟩ := h
  exact ⟨cs, h1, h2⟩
def env0 : Value := .agg (EX.envA none 0 0 (fun _ => 0) (fun _ => 0) (fun _ => 0) (fun _ => 0) 0 0 0)

set_option maxRecDepth 100000 in
theorem lifted (os : Os) (started : os.Started) (H : Type) (enc : TypeId × Value → H) :
    ReturnsInHanded {} Sagg.checked os 8 .any (Rows.envOpsSpec.pre6 enc Sagg.prog Sagg.f8 Rows.envOpsRow.domain false) (Rows.envOpsSpec.post enc Sagg.prog Sagg.f8 false true false false) := by
  refine returnsInHanded_of_change_sized (C := Sagg.checked) own started (by kernel_rfl) Sagg.func8
    (ChangeSpec.witness6 (enc := enc) (C := Sagg.checked) false ⟨#[], #[env0, .int .u8 0], []⟩ 8 (by kernel_rfl) (by kernel_rfl) (by kernel_rfl) (by kernel_rfl)) ?_
  intro W base args ds gs before hval0 hW hcnd hsz0 _
  have hval : ∀ (j : Nat) t v, Sagg.f8.params[j]? = some t → args[j]? = some v → Value.okWide Sagg.prog W .any base t v := hval0
  have hW' := hW
  obtain ⟨p, q, hA0, hV, rfl, hfz, hnd⟩ := hW
  have hA : DataW.TrodAll enc Sagg.prog W 0 (fun _ => true) true Sagg.f8.params.toList args.toList ds p := hA0
  rw [Sagg.params8] at hA hval
  obtain ⟨v0, vs0, d0, ds0, p0, q0, hargs, rfl, rfl, h0, r0⟩ := trodAll_cons hA
  obtain ⟨v1, vs1, d1, ds1, p1, q1, rfl, rfl, rfl, h1, r1⟩ := trodAll_cons r0
  obtain ⟨rfl, rfl, rfl⟩ := trodAll_nil r1
  obtain rfl : args = #[v0, v1] := by cases args; simp_all
  obtain ⟨rfl, rfl⟩ := trodVars_none hV
  have k1 := h1
  obtain ⟨c0, rfl, -⟩ := okWide_struct Sagg.underlying68 (hval 0 68 v0 rfl rfl)
  obtain ⟨o, rfl, rfl, rfl, w1⟩ := open_int Sagg.underlying5 (hval 1 5 v1 rfl rfl) h1
  obtain ⟨ha, hl, hc, cb, ra, ci, bf, nu, ti, gl, zs, e, g1, g2, g3, g4, g5, g6, g7, g8, g9⟩ := open68 (cs := c0.toList) (read_of h0)
  obtain rfl : c0 = EX.envA ha hl hc cb ra ci bf nu ti gl := by rw [← e]
  have hb := bounds_u8 w1
  clear hA0 hval0 hval
  refine (EX.en_calls g1 g2 g3 g4 g5 g6 g7 g8 g9).mono fun e W' ⟨he, bel⟩ => ?_
  subst he
  exact ⟨_, rfl, _, _, _, [], _, [], hW', trodAll_mk1 (shut_bool Sagg.underlying4 _),
    trodAll_cons_mk (again rd68 z68 h0 bel) (trodAll_cons_mk (again rd5 z5 k1 bel) trodAll_mk0), rfl, bel.frame _, fun h => by cases h⟩

theorem over : Rows.envOpsRow.holds Sagg.pinned (OpenSpec.ofChange Rows.envOpsSpec) :=
  OpenClaim.holds_of_wide 8 Sagg.f8 rfl rfl rfl rfl rfl rfl rfl ⟨rfl, rfl, rfl, rfl, rfl⟩ rfl rfl rfl rfl rfl (by kernel_rfl) Sagg.func8 (by kernel_rfl)
    (of_decide_eq_true (by kernel_rfl)) (by unfold Func.isWrapper; first | (rw [if_pos (by decide +kernel)]; kernel_rfl) | (rw [if_neg (by decide +kernel)]; exact ⟨rfl, rfl⟩))
    (fun os started H enc _ => lifted os started H enc)

/-- ████ THE STATEMENT ████ -/
theorem proved : Rows.EnvOpsSaid := over
end Go.Proofs.YgcsagGreat.envOps
