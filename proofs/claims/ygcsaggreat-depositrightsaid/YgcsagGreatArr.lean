/-
  ARRAYS OF BYTES AS VALUES: comparison. Over any program.
-/
import Derived.Test.YgcsagGreatMem
import Derived.Laws.StructEq
namespace Go.Proofs.YgcsagGreat
open Go.RowKit
set_option linter.unusedSimpArgs false
set_option linter.unusedVariables false

/-- The cells of a list of bytes. -/
def bcells (zs : List Int) : List Value := zs.map (Value.int .u8)

theorem bcells_length (zs : List Int) : (bcells zs).length = zs.length := by simp [bcells]
theorem bcells_get (zs : List Int) (i : Nat) (h : i < zs.length) : (bcells zs)[i]? = some (.int .u8 (zs.getD i 0)) := by
  simp [bcells, h, List.getD_eq_getElem?_getD]
theorem bcells_inj {a b : List Int} (h : bcells a = bcells b) : a = b := by
  unfold bcells at h
  induction a generalizing b with
  | nil => cases b with
    | nil => rfl
    | cons y s => simp at h
  | cons x r ih => cases b with
    | nil => simp at h
    | cons y s =>
      simp only [List.map_cons, List.cons.injEq, Value.int.injEq, true_and] at h
      rw [h.1, ih h.2]

section
variable {P : Program}

/-- The comparison's loop from place i on. -/
theorem run_eq_loop (w : World) (e : TypeId) (d : Nat) (he : P.underlying e = some (.int .u8)) (hs : (sizeOf e).run P w = .ok 1 w) (ha : (isAgg e).run P w = .ok false w) (xs ys : List Int) (hl : xs.length = ys.length) :
    ∀ (n i : Nat), i + n = xs.length →
    (forIn (List.range' i n) ((none, ()) : Option Bool × Unit) fun j r => (do
        if !(← Op.equalIn (d + 1) e (← part e (bcells xs).toArray (j * 1)) (← part e (bcells ys).toArray (j * 1))) then pure (ForInStep.done ((some false, ()) : Option Bool × Unit))
        else pure (ForInStep.yield ((none, ()) : Option Bool × Unit)) : Sem _)).run P w
      = .ok ((if xs.drop i = ys.drop i then none else some false, ()) : Option Bool × Unit) w := by
  intro n
  induction n with
  | zero =>
    intro i hi
    rw [List.drop_eq_nil_iff.2 (by omega), List.drop_eq_nil_iff.2 (by omega)]
    simp
  | succ n ih =>
    intro i hi
    have hx : i < xs.length := by omega
    have hy : i < ys.length := by omega
    have h1 : (part e (bcells xs).toArray (i * 1)).run P w = .ok (.int .u8 (xs.getD i 0)) w := by
      unfold part
      simp only [Sem.run_bind, ha, Result.andThen_ok, Bool.false_eq_true, if_false, Nat.mul_one, List.getElem?_toArray, bcells_get xs i hx, Sem.run_pure]
    have h2 : (part e (bcells ys).toArray (i * 1)).run P w = .ok (.int .u8 (ys.getD i 0)) w := by
      unfold part
      simp only [Sem.run_bind, ha, Result.andThen_ok, Bool.false_eq_true, if_false, Nat.mul_one, List.getElem?_toArray, bcells_get ys i hy, Sem.run_pure]
    rw [List.range'_succ, List.forIn_cons]
    simp only [Sem.run_bind, h1, h2, Result.andThen_ok, run_equalIn_int w d e .u8 .u8 _ _ he]
    rw [drop_getD_cons xs i hx, drop_getD_cons ys i hy]
    by_cases hxy : xs.getD i 0 = ys.getD i 0
    · have := ih (i + 1) (by omega)
      simp only [hxy, beq_self_eq_true, Bool.not_true, Bool.false_eq_true, if_false, Sem.run_pure, Result.andThen_ok, List.cons.injEq, true_and]
      exact this
    · have hb : (xs.getD i 0 == ys.getD i 0) = false := by simpa using hxy
      simp only [hb, Bool.not_false, if_true, Sem.run_pure, Result.andThen_ok, List.cons.injEq, hxy, false_and, if_false]

theorem run_equalIn_bytes (w : World) (d : Nat) (t e : TypeId) (n : Nat) (ht : P.underlying t = some (.array n e)) (he : P.underlying e = some (.int .u8)) (hs : (sizeOf e).run P w = .ok 1 w) (ha : (isAgg e).run P w = .ok false w)
    (xs ys : List Int) (hx : xs.length = n) (hy : ys.length = n) : (Op.equalIn (d + 2) t (.agg (bcells xs).toArray) (.agg (bcells ys).toArray)).run P w = .ok (decide (xs = ys)) w := by
  unfold Op.equalIn
  simp only [Sem.run_bind, run_underlying ht, Result.andThen_ok, hs]
  have := run_eq_loop (P := P) w e d he hs ha xs ys (by omega) n 0 (by omega)
  simp only [Std.Legacy.Range.forIn_eq_forIn_range', Std.Legacy.Range.size, Nat.sub_zero, Nat.add_sub_cancel, Nat.div_one]
  rw [this]
  by_cases h : xs = ys
  · simp [h]
  · simp [h]

theorem run_eql_bytes (w : World) (t e : TypeId) (n : Nat) (ht : P.underlying t = some (.array n e)) (he : P.underlying e = some (.int .u8)) (hs : (sizeOf e).run P w = .ok 1 w) (ha : (isAgg e).run P w = .ok false w)
    (xs ys : List Int) (hx : xs.length = n) (hy : ys.length = n) : (binOp .eql t (.agg (bcells xs).toArray) (.agg (bcells ys).toArray)).run P w = .ok (.bool (decide (xs = ys))) w := by
  rw [run_eql_struct, run_equalIn_bytes w 9998 t e n ht he hs ha xs ys hx hy]
  rfl

theorem run_neq_bytes (w : World) (t e : TypeId) (n : Nat) (ht : P.underlying t = some (.array n e)) (he : P.underlying e = some (.int .u8)) (hs : (sizeOf e).run P w = .ok 1 w) (ha : (isAgg e).run P w = .ok false w)
    (xs ys : List Int) (hx : xs.length = n) (hy : ys.length = n) : (binOp .neq t (.agg (bcells xs).toArray) (.agg (bcells ys).toArray)).run P w = .ok (.bool (!decide (xs = ys))) w := by
  rw [run_neq_struct, run_equalIn_bytes w 9998 t e n ht he hs ha xs ys hx hy]
  rfl
end
end Go.Proofs.YgcsagGreat
