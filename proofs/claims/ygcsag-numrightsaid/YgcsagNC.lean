/-
  'FromU64' AND 'Mul'.
-/
import Derived.Test.YgcsagNB
namespace Go.Proofs.Ygcsag
open Go.RowKit
set_option linter.unusedVariables false
set_option linter.unusedSimpArgs false

theorem norm_calls (a : Option Addr) (n c : Nat) (zs : List Int) (w : World) (hl : zs.length = n) (hlc : n ≤ c) (hm : c ≤ maxLen) (hM : n ≤ 281474976710000) (hr : ByteRow w a zs) :
    Calls Sagg.prog 61 #[.slice a n c] w fun e w' => ∃ v, e = .returned v ∧ IsN w' v (val zs) ∧ Below w.heap.size w w' :=
  norm_core a n c _ zs w hl hlc hm hr rfl (by have := trimL_le zs; omega)

/-! ### FromU64 -/
structure Made38 (x i X : Nat) (cur : List Int) (w0 W : World) : Prop where
  len : cur.length = 8
  dig : Dig cur
  sum : val (cur.take i) + 256 ^ i * (X : Int) = x
  XM : X < 18446744073709551616
  below : Below w0.heap.size w0 W
  row : W.heap[w0.heap.size]? = some (.cells (rowOf cur) 81 (0, 0))
structure G38 where
  i : Nat := 0
  X : Nat := 0
  cur : List Int := []
  more : Bool := false
def G38.c1 (i X : Nat) (cur : List Int) : G38 := { i := i, X := X, cur := cur, more := true }
def G38.c2 (X : Nat) (cur : List Int) : G38 := { i := 8, X := X, cur := cur, more := false }
def loop38 (x : Nat) (w0 : World) : LoopTip G38 where
  slots := [0, 5]
  inv := fun _ w us w' => ∃ (i X : Nat) (cur : List Int), i ≤ 8 ∧ us = [.int .u64 (X : Nat), .int .i64 (i : Nat)] ∧ Made38 x i X cur w0 w'
  T := fun _ w C => (∀ (i X : Nat) (cur : List Int) (W : World), i < 8 → Made38 x i X cur w0 W → C (G38.c1 i X cur) [.int .u64 (X : Nat), .int .i64 (i : Nat)] W) ∧
    (∀ (X : Nat) (cur : List Int) (W : World), Made38 x 8 X cur w0 W → C (G38.c2 X cur) [.int .u64 (X : Nat), .int .i64 ((8 : Nat) : Int)] W)
  mu := fun _ us _ => 8 - (intOf (us.getLastD undef)).toNat
theorem loop38_ok (x : Nat) (w0 : World) (g : G38) (w : World) : LoopOK (loop38 x w0) g w := by
  rintro C ⟨h1, h2⟩ us w' - ⟨i, X, cur, hi, rfl, hm⟩
  by_cases e : i < 8
  · exact ⟨_, h1 i X cur w' e hm⟩
  · obtain rfl : i = 8 := by omega
    exact ⟨_, h2 X cur w' hm⟩
def numT (n : Int) (w0 : World) {Γ : Type} (g : Γ) (w : World) (C : Γ → Value → World → Prop) : Prop := ∀ v W', IsN W' v n → Below w0.heap.size w0 W' → C g v W'
def tips38 (x : Nat) (w0 : World) : Tips G38 where
  ops := [(3, { val := some fun _ => .pointer (some ⟨w0.heap.size, 0, none⟩), wld := some fun _ w => w.alloc (.cells (rowOf (zeros 8)) 81) }), (6, { val := some fun g => .bool g.more }), (10, { val := some fun g => .int .u8 ((g.X : Int) % 256) }), (11, { val := some fun g => .pointer (some ⟨w0.heap.size, 0 + g.i, none⟩) }),
    (1005004, { val := some fun _ => undef, wld := some fun g w => w.setRow w0.heap.size (rowOf (g.cur.set (0 + g.i) ((g.X : Int) % 256))) }), (13, { val := some fun g => .int .u64 (g.X / 256 : Nat) }), (14, { val := some fun g => .int .i64 (g.i + 1 : Nat) }), (16, { tr := some fun g w C => numT x w0 g w C })]
  loops := [(3, loop38 x w0)]
theorem zero81 (w : World) : (zeroValue 81).run Sagg.prog w = .ok (.agg (rowOf (zeros 8))) w := by kernel_rfl
theorem run_allocN {P : Program} {t : TypeId} {z : Array Value} {w : World} {h : Nat} (hz : ∀ w, (zeroValue t).run P w = .ok (.agg z) w) (hh : h = w.heap.size) : (Instr.alloc t true (.tuple #[])).run P w = .ok (.pointer (some ⟨h, 0, none⟩)) (w.alloc (.cells z t)) := by
  subst hh
  simp [Instr.alloc, hz, newVar, newRow, Value.cells]
theorem made38_start {x : Nat} (hx : x < 18446744073709551616) {w : World} : Made38 x 0 x (zeros 8) w (w.alloc (.cells (rowOf (zeros 8)) 81)) :=
  ⟨zeros_length _, Dig.zeros _, by simp [val], hx, (Below.refl _ _).alloc (Nat.le_refl _) _, alloc_row⟩
theorem made38_next {x i X : Nat} {cur : List Int} {w0 W : World} (hi : i < 8) (h : Made38 x i X cur w0 W) : Made38 x (i + 1) (X / 256) (cur.set (0 + i) ((X : Int) % 256)) w0 (W.setRow w0.heap.size (rowOf (cur.set (0 + i) ((X : Int) % 256)))) := by
  rw [Nat.zero_add]
  refine ⟨by rw [List.length_set]; exact h.len, h.dig.set _ (by omega), ?_, by have := h.XM; omega, kept_row h.below (Nat.le_refl _) _, setRow_heap _ _ _ _ _ _ h.row⟩
  have hs := h.sum
  rw [val_take_succ, take_set_ge _ _ _ _ (Nat.le_refl _), getD_set_self _ _ _ (by rw [h.len]; exact hi), ← hs]
  have e : (X : Int) = 256 * ((X / 256 : Nat) : Int) + (X : Int) % 256 := by omega
  generalize (X : Int) % 256 = m at *
  generalize ((X / 256 : Nat) : Int) = q at *
  rw [Int.pow_succ, e, Int.mul_add, ← Int.mul_assoc]
  omega
theorem made38_val {x X : Nat} {cur : List Int} {w0 W : World} (hx : x < 18446744073709551616) (h : Made38 x 8 X cur w0 W) : val cur = x := by
  have hs := h.sum
  rw [List.take_of_length_le (by rw [h.len]; omega)] at hs
  have h1 := val_nonneg h.dig
  have : X = 0 := by
    rcases Nat.eq_zero_or_pos X with h2 | h2
    · exact h2
    · exfalso
      have : (256 : Int) ^ 8 * 1 ≤ 256 ^ 8 * (X : Int) := Int.mul_le_mul_of_nonneg_left (by omega) (by decide)
      have e : (256 : Int) ^ 8 = 18446744073709551616 := by decide
      omega
  subst this
  simpa using hs
theorem from38 {x X : Nat} {cur : List Int} {w0 W : World} (hx : x < 18446744073709551616) (h : Made38 x 8 X cur w0 W) {Γ : Type} {g : Γ} : CallOK Sagg.prog 61 #[.slice (some ⟨w0.heap.size, 0, none⟩) 8 8] W (fun C : Γ → Value → World → Prop => numT x w0 g W C) := by
  intro C hC
  refine (norm_calls (some ⟨w0.heap.size, 0, none⟩) 8 8 cur W h.len (Nat.le_refl _) (by unfold maxLen; omega) (by omega) ⟨h.dig, .inr ⟨_, _, rfl, fun i hi => by rw [Nat.zero_add]; exact cell_row h.row hi⟩⟩).mono ?_
  rintro e w' ⟨v, rfl, hn, hb⟩
  rw [made38_val hx h] at hn
  exact ⟨g, v, rfl, hC v w' hn (h.below.trans (Below.mono hb h.below.size))⟩
theorem conv_byte {X : Nat} {w : World} : (convert 31 5 (.int .u64 (X : Int))).run Sagg.prog w = .ok (.int .u8 ((X : Int) % 256)) w := conv_i Sagg.underlying31 Sagg.underlying5 wrap8

set_option maxRecDepth 100000 in
set_option maxHeartbeats 8000000 in
theorem fromU64_core (x : Nat) (w : World) (hx : x < 18446744073709551616) : Calls Sagg.prog 38 #[.int .u64 (x : Int)] w (postN (x : Int) w) := by
  refine CX_calls (tips38 x w) {} (by kernel_rfl) Sagg.func38 rfl _ rfl (by kernel_rfl) ?_
  refine of_eq (p := Sem.run Sagg.prog (Instr.alloc 81 true (Value.tuple { toList := [] })) w = Result.ok (Value.pointer (some { block := w.heap.size, off := 0 })) (w.alloc (Obj.cells { toList := [Value.int IntKind.u8 0, Value.int IntKind.u8 0, Value.int IntKind.u8 0, Value.int IntKind.u8 0, Value.int IntKind.u8 0, Value.int IntKind.u8 0, Value.int IntKind.u8 0, Value.int IntKind.u8 0] } 81)) ∧
  (∃ (i : Nat), ∃ (X : Nat), ∃ (cur : List Int), i ≤ 8 ∧ [Value.int IntKind.u64 ↑x, Value.int IntKind.i64 0] = [Value.int IntKind.u64 ↑X, Value.int IntKind.i64 ↑i] ∧ Made38 x i X cur w ((fun (x : G38) (w : World) => w.alloc (Obj.cells (rowOf (zeros 8)) 81)) { } w)) ∧
    LoopOK (loop38 x w) { } (w.alloc (Obj.cells { toList := [Value.int IntKind.u8 0, Value.int IntKind.u8 0, Value.int IntKind.u8 0, Value.int IntKind.u8 0, Value.int IntKind.u8 0, Value.int IntKind.u8 0, Value.int IntKind.u8 0, Value.int IntKind.u8 0] } 81)) ∧
      (∀ (i X : Nat) (cur : List Int) (W : World),
          i < 8 →
            Made38 x i X cur w W →
              Sem.run Sagg.prog (binOp BinOp.lss 3 (Value.int IntKind.i64 ↑i) (Value.int IntKind.i64 8)) W = Result.ok (Value.bool true) W ∧
                Sem.run Sagg.prog (convert 31 5 (Value.int IntKind.u64 ↑X)) W = Result.ok (Value.int IntKind.u8 (↑X % 256)) W ∧
                  Sem.run Sagg.prog (Instr.indexAt 81 (Value.pointer (some { block := w.heap.size, off := 0 })) (Value.int IntKind.i64 ↑i)) W = Result.ok (Value.pointer (some { block := w.heap.size, off := 0 + i })) W ∧
                    Sem.run Sagg.prog
                          (do
                            storeVar 5 { block := w.heap.size, off := 0 + i } (Value.int IntKind.u8 (↑X % 256))
                            pure undef)
                          W =
                        Result.ok (Value.tuple { toList := [] }) (W.setRow w.heap.size { toList := List.map (Value.int IntKind.u8) (cur.set (0 + i) (↑X % 256)) }) ∧
                      Sem.run Sagg.prog (binOp BinOp.shr 31 (Value.int IntKind.u64 ↑X) (Value.int IntKind.u64 8)) (W.setRow w.heap.size { toList := List.map (Value.int IntKind.u8) (cur.set (0 + i) (↑X % 256)) }) = Result.ok (Value.int IntKind.u64 ↑(X / 256)) (W.setRow w.heap.size { toList := List.map (Value.int IntKind.u8) (cur.set (0 + i) (↑X % 256)) }) ∧ Sem.run Sagg.prog (binOp BinOp.add 3 (Value.int IntKind.i64 ↑i) (Value.int IntKind.i64 1)) (W.setRow w.heap.size { toList := List.map (Value.int IntKind.u8) (cur.set (0 + i) (↑X % 256)) }) = Result.ok (Value.int IntKind.i64 ↑(i + 1)) (W.setRow w.heap.size { toList := List.map (Value.int IntKind.u8) (cur.set (0 + i) (↑X % 256)) }) ∧ (∃ (i_1 : Nat), ∃ (X_1 : Nat), ∃ (cur_1 : List Int), i_1 ≤ 8 ∧ [Value.int IntKind.u64 ↑(X / 256), Value.int IntKind.i64 ↑(i + 1)] = [Value.int IntKind.u64 ↑X_1, Value.int IntKind.i64 ↑i_1] ∧ Made38 x i_1 X_1 cur_1 w ((fun (g : G38) (w_1 : World) => w_1.setRow w.heap.size (rowOf (g.cur.set (0 + g.i) (↑g.X % 256)))) (G38.c1 i X cur) W)) ∧ 8 - (((i + 1) : Nat) : Int).toNat < 8 - ((i : Nat) : Int).toNat) ∧
        ∀ (X : Nat) (cur : List Int) (W : World), Made38 x 8 X cur w W → Sem.run Sagg.prog (binOp BinOp.lss 3 (Value.int IntKind.i64 ↑8) (Value.int IntKind.i64 8)) W = Result.ok (Value.bool false) W ∧ (CallOK Sagg.prog 61 { toList := [Value.slice (some { block := w.heap.size, off := 0 }) 8 8] } W fun (C : G38 → Value → World → Prop) => numT (↑x) w (G38.c2 X cur) W C) ∧ ∀ (v : Value) (W' : World), IsN W' v ↑x → Below w.heap.size w W' → (postN (x : Int) w) (Ending.returned (resVal [rho [(16, v), (15, Value.slice (some { block := w.heap.size, off := 0 }) 8 8), (6, Value.bool false), (0, Value.int IntKind.u64 ↑X), (5, Value.int IntKind.i64 ↑8), (3, Value.pointer (some { block := w.heap.size, off := 0 })), (2, Value.slice none 0 0)] (Operand.tmp 16)])) W') (by kernel_rfl) ?_
  exact ⟨(run_allocN zero81 rfl), ⟨0, x, zeros 8, by omega, rfl, made38_start hx⟩, (loop38_ok _ _ _ _), (fun i3 => (fun X4 => (fun cur5 => (fun W6 => (fun h7 => (fun h8 => ⟨(lss_t (by omega)), conv_byte, (index_arr Sagg.underlying81 isz5 (by omega)), (store_byte (show Made38 _ _ _ _ _ _ by assumption).row (by rw [(show Made38 _ _ _ _ _ _ by assumption).len]; omega)), (shrU (s := 8) (by omega) rfl), (inc_i (m := 8) (by omega) (by omega)), ⟨_, _, _, by omega, rfl, made38_next (by omega) (by assumption)⟩, (by simp [intOf]; omega)⟩)))))), (fun X17 => (fun cur18 => (fun W19 => (fun h20 => ⟨(lss_f (by omega)), (from38 hx (by assumption)), (fun v23 => (fun W'24 => (fun h25 => (fun h26 => ⟨_, rfl, (by assumption), (by assumption)⟩))))⟩))))⟩
end Go.Proofs.Ygcsag
