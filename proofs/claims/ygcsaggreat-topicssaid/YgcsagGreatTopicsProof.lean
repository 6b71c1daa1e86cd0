/-
  THE PROOF OF 'Rows.TopicsSaid' ('yellow/law.Topics').
-/
import Derived.Test.YgcsagGreatTou
import Derived.Test.YgcsagGreatRead
import Derived.Test.YgcsagGreatRows
import Derived.ProofKit
import Derived.OpenShut
import Derived.ShutString
import Derived.ChangeOld
import Derived.SizedLaws
namespace Go.Proofs.YgcsagGreat.topics
open Go.ChangeShapes Go.WideShapes Go.ChangeAt Go.RowKit
set_option linter.unusedVariables false

theorem own : ownKnob Sagg.prog.godebug = none := by kernel_rfl
theorem laidOut : laidOutB Sagg.prog = true := by kernel_rfl
theorem cellsOf5 : Sagg.prog.cellsOf 5 = 1 := by kernel_rfl
theorem cellsOf28 : Sagg.prog.cellsOf 28 = 32 := by kernel_rfl
theorem cellsOf59 : Sagg.prog.cellsOf 59 = 128 := by kernel_rfl
theorem open28 {w : World} {cs : List Value} (h : Read Sagg.prog w 28 cs) : ∃ zs, cs = bcells zs ∧ zs.length = 32 ∧ Dig zs := h.bytes Sagg.underlying28 Sagg.underlying5 cellsOf5 cellsOf28
theorem open59 {w : World} {cs : List Value} (h : Read Sagg.prog w 59 cs) : ∃ zs, cs = bcells zs ∧ zs.length = 128 ∧ Dig zs := by
  obtain ⟨hl, he⟩ := h.array Sagg.underlying59
  rw [cellsOf59] at hl
  rw [cellsOf28] at he
  obtain ⟨a, ea, la, da⟩ := open28 (he 0 (by omega))
  obtain ⟨b, eb, lb, db⟩ := open28 (he 1 (by omega))
  obtain ⟨c, ec, lc, dc⟩ := open28 (he 2 (by omega))
  obtain ⟨d, ed, ld, dd⟩ := open28 (he 3 (by omega))
  have cut : ∀ (o c n : Nat) (x : List Value), o + c = n → (cs.drop o).take c = x → cs.drop o = x ++ cs.drop n := by
    intro o c n x hn hx
    rw [← hx, ← hn, ← List.drop_drop, List.take_append_drop]
  have e : cs.drop 0 = bcells a ++ (bcells b ++ (bcells c ++ (bcells d ++ cs.drop 128))) := by
    rw [cut 0 32 32 _ rfl ea, cut 32 32 64 _ rfl eb, cut 64 32 96 _ rfl ec, cut 96 32 128 _ rfl ed]
  rw [List.drop_zero, List.drop_eq_nil_of_le (i := 128) (by omega), List.append_nil] at e
  refine ⟨a ++ (b ++ (c ++ d)), ?_, by simp [la, lb, lc, ld], ?_⟩
  · rw [e]
    simp [bcells]
  · intro x hx
    simp only [List.mem_append] at hx
    rcases hx with h | h | h | h
    · exact da x h
    · exact db x h
    · exact dc x h
    · exact dd x h
theorem ts_of {cs : List Value} {zs : List Int} (h : cs = bcells zs) (hl : zs.length = 128) : cs.toArray = EX.tsA (fun i j => zs.getD (32 * i + j) 0) := by
  rw [EX.tsA_of (fun n => zs.getD n 0), h]
  congr 2
  apply List.ext_getElem?
  intro i
  by_cases hi : i < 128
  · rw [List.getElem?_map, List.getElem?_range hi, List.getElem?_eq_getElem (by omega)]
    simp [List.getD_eq_getElem?_getD, show i < zs.length by omega]
  · rw [List.getElem?_eq_none (by omega), List.getElem?_eq_none (by simp; omega)]
theorem ts_in {zs : List Int} (h : Dig zs) : ∀ i, EX.AllIn (EX.tsl (fun i j => zs.getD (32 * i + j) 0) i) := fun i => EX.allIn_of fun x hx => by
  unfold EX.tsl EX.l32 at hx
  obtain ⟨j, _, rfl⟩ := List.mem_map.1 hx
  exact h.getD _
theorem read_of {H : Type} {enc : TypeId × Value → H} {w : World} {t : TypeId} {v : Value} {d : DataW H} {p : List MemPlace} (h : DataW.Trod enc Sagg.prog w 0 (fun _ => true) true t v d p) : Read Sagg.prog w t v.cells.toList := by
  obtain ⟨fuel, h⟩ := h
  exact ⟨H, enc, fuel, _, h⟩
theorem lt_of {H : Type} {enc : TypeId × Value → H} {w : World} {t : TypeId} {v : Value} {d : DataW H} {p : List MemPlace} (h : DataW.Trod enc Sagg.prog w 0 (fun _ => true) true t v d p) : ∀ x ∈ p, x.block < w.heap.size := by
  obtain ⟨m, hm⟩ := h
  exact DataW.trod_lt m _ _ _ hm
theorem rd5 : Sagg.prog.readableRec 5 = true := by kernel_rfl
theorem rd59 : Sagg.prog.readableRec 59 = true := by kernel_rfl
theorem rd30 : Sagg.prog.readableRec 30 = true := by kernel_rfl
theorem z5 : 5 < Sagg.prog.types.size := of_decide_eq_true (by kernel_rfl)
theorem z59 : 59 < Sagg.prog.types.size := of_decide_eq_true (by kernel_rfl)
theorem z30 : 30 < Sagg.prog.types.size := of_decide_eq_true (by kernel_rfl)
theorem again {H : Type} {enc : TypeId × Value → H} {w w' : World} {t : TypeId} {v : Value} {d : DataW H} {p : List MemPlace} (hr : Sagg.prog.readableRec t = true) (hz : t < Sagg.prog.types.size) (h : DataW.Trod enc Sagg.prog w 0 (fun _ => true) true t v d p) (hb : Below w.heap.size w w') :
    DataW.Trod enc Sagg.prog w' 0 (fun b => decide (b < w.heap.size)) true t v d p :=
  Below.trod laidOut hr hz h hb (lt_of h)
theorem okWide_array {P : Program} {w : World} {r : Reach} {base : Nat} {t : TypeId} {v : Value} {n : Nat} {e : TypeId} (ht : P.underlying t = some (.array n e)) (h : Value.okWide P w r base t v) : ∃ cs, v = .agg cs ∧ cs.size = P.cellsOf t := by
  simp only [Value.okWide, ht] at h
  obtain ⟨cs, h1, h2, _⟩ := h
  exact ⟨cs, h1, h2⟩
def zeroA : Value := .agg (Array.replicate 128 (.int .u8 0))

set_option maxRecDepth 100000 in
theorem lifted (os : Os) (started : os.Started) (H : Type) (enc : TypeId × Value → H) :
    ReturnsInHanded {} Sagg.checked os 6 .any (Rows.topicsSpec.pre6 enc Sagg.prog Sagg.f6 Rows.topicsRow.domain false) (Rows.topicsSpec.post enc Sagg.prog Sagg.f6 false true false false) := by
  refine returnsInHanded_of_change_sized (C := Sagg.checked) own started (by kernel_rfl) Sagg.func6
    (ChangeSpec.witness6 (enc := enc) (C := Sagg.checked) false ⟨#[], #[.int .u8 0, zeroA, .int .u8 0, .int .u8 0, .slice none 0 0], []⟩ 8 (by kernel_rfl) (by kernel_rfl) (by kernel_rfl) (by kernel_rfl)) ?_
  intro W base args ds gs before hval0 hW hcnd hsz0 _
  have hval : ∀ (j : Nat) t v, Sagg.f6.params[j]? = some t → args[j]? = some v → Value.okWide Sagg.prog W .any base t v := hval0
  have hW' := hW
  obtain ⟨p, q, hA0, hV, rfl, hfz, hnd⟩ := hW
  have hA : DataW.TrodAll enc Sagg.prog W 0 (fun _ => true) true Sagg.f6.params.toList args.toList ds p := hA0
  rw [Sagg.params6] at hA hval
  obtain ⟨v0, vs0, d0, ds0, p0, q0, hargs, rfl, rfl, h0, r0⟩ := trodAll_cons hA
  obtain ⟨v1, vs1, d1, ds1, p1, q1, rfl, rfl, rfl, h1, r1⟩ := trodAll_cons r0
  obtain ⟨v2, vs2, d2, ds2, p2, q2, rfl, rfl, rfl, h2, r2⟩ := trodAll_cons r1
  obtain ⟨v3, vs3, d3, ds3, p3, q3, rfl, rfl, rfl, h3, r3⟩ := trodAll_cons r2
  obtain ⟨v4, vs4, d4, ds4, p4, q4, rfl, rfl, rfl, h4, r4⟩ := trodAll_cons r3
  obtain ⟨rfl, rfl, rfl⟩ := trodAll_nil r4
  obtain rfl : args = #[v0, v1, v2, v3, v4] := by cases args; simp_all
  obtain ⟨rfl, rfl⟩ := trodVars_none hV
  have k0 := h0
  have k2 := h2
  have k3 := h3
  have k4 := h4
  have s4 := hval 4 30 v4 rfl rfl
  obtain ⟨kind, rfl, rfl, rfl, w0⟩ := open_int Sagg.underlying5 (hval 0 5 v0 rfl rfl) h0
  obtain ⟨c1, rfl, -⟩ := okWide_array Sagg.underlying59 (hval 1 59 v1 rfl rfl)
  obtain ⟨og, rfl, rfl, rfl, w2⟩ := open_int Sagg.underlying5 (hval 2 5 v2 rfl rfl) h2
  obtain ⟨ln, rfl, rfl, rfl, w3⟩ := open_int Sagg.underlying5 (hval 3 5 v3 rfl rfl) h3
  obtain ⟨a4, n4, c4, rfl⟩ := okWide_slice Sagg.underlying30 s4
  obtain ⟨tz, e1, tl, td⟩ := open59 (cs := c1.toList) (read_of h1)
  obtain rfl : c1 = EX.tsA (fun i j => tz.getD (32 * i + j) 0) := by rw [← ts_of e1 tl]
  have b0 := bounds_u8 w0
  have b2 := bounds_u8 w2
  have b3 := bounds_u8 w3
  have hcalls : Calls Sagg.prog 6 #[.int .u8 kind, .agg (EX.tsA (fun i j => tz.getD (32 * i + j) 0)), .int .u8 og, .int .u8 ln, .slice a4 n4 c4] W fun e w' => e = .returned (.bool true) ∧ Below W.heap.size W w' := by
    obtain ⟨fuel, hf⟩ := h4
    rcases open_ints Sagg.underlying30 Sagg.underlying5 cellsOf5 hf with ⟨hcs, -⟩ | ⟨a, len, cap, zs, hcs, _, hl, hm, hz, -, hcell, hwf⟩
    · simp only [Value.cells, List.cons.injEq, Value.slice.injEq, and_true] at hcs
      obtain ⟨rfl, rfl, rfl⟩ := hcs
      exact EX.to_nil_calls (by omega) (ts_in td) (by omega) (by omega)
    · simp only [Value.cells, List.cons.injEq, Value.slice.injEq, and_true] at hcs
      obtain ⟨rfl, rfl, rfl⟩ := hcs
      have hspot : a.spot = none := by
        simp only [Value.okWide, Sagg.underlying30, Cell.okWide, Cell.ok] at s4
        exact s4.2.2.2.1
      obtain ⟨b, o, sp⟩ := a
      obtain rfl : sp = none := hspot
      simp only [if_true] at hz
      refine EX.to_row_calls (zs := zs.take n4) (by omega) (ts_in td) (by omega) (by omega) hl (by rw [List.length_take]; omega) (fun x hx => ?_) (fun j hj => ?_)
      · have := bounds_u8 (hwf x (List.mem_of_mem_take hx))
        omega
      · rw [List.length_take] at hj
        have hc := hcell j (by omega)
        have e : (Addr.add ⟨b, o, none⟩ j) = ⟨b, o + j, none⟩ := by
          unfold Addr.add
          split
          · simp_all
          · rfl
        rw [e] at hc
        rw [hc]
        simp [List.getD_eq_getElem?_getD, show j < n4 by omega]
  clear hA0 hval0 hval
  refine hcalls.mono fun e W' ⟨he, bel⟩ => ?_
  subst he
  exact ⟨_, rfl, _, _, _, [], _, [], hW', trodAll_mk1 (shut_bool Sagg.underlying4 _),
    trodAll_cons_mk (again rd5 z5 k0 bel) (trodAll_cons_mk (again rd59 z59 h1 bel) (trodAll_cons_mk (again rd5 z5 k2 bel) (trodAll_cons_mk (again rd5 z5 k3 bel) (trodAll_cons_mk (again rd30 z30 k4 bel) trodAll_mk0)))), rfl, bel.frame _, fun h => by cases h⟩

theorem over : Rows.topicsRow.holds Sagg.pinned (OpenSpec.ofChange Rows.topicsSpec) :=
  OpenClaim.holds_of_wide 6 Sagg.f6 rfl rfl rfl rfl rfl rfl rfl ⟨rfl, rfl, rfl, rfl, rfl⟩ rfl rfl rfl rfl rfl (by kernel_rfl) Sagg.func6 (by kernel_rfl)
    (of_decide_eq_true (by kernel_rfl)) (by unfold Func.isWrapper; first | (rw [if_pos (by decide +kernel)]; kernel_rfl) | (rw [if_neg (by decide +kernel)]; exact ⟨rfl, rfl⟩))
    (fun os started H enc _ => lifted os started H enc)

/-- ████ THE STATEMENT ████ -/
theorem proved : Rows.TopicsSaid := over
end Go.Proofs.YgcsagGreat.topics
